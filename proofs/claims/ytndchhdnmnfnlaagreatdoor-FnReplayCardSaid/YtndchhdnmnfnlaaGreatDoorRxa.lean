/- This text proves laws about a reflected evaluator of Go code, part 1 of 5; no condition beyond those each theorem states. -/
import Derived.Below
import Derived.Calls
import Derived.Deep.Draws
import Derived.KernelRfl
import Derived.Laws.BytesArg
import Derived.Laws.CopyOwn
import Derived.Laws.CopyRow
import Derived.Laws.MakeOwn
import Derived.Laws.OwnMore
set_option linter.unusedVariables false
set_option linter.unusedSimpArgs false
namespace Go.Rx
universe u v
theorem Xa {α : Type u} {β : Type v} (a : α) (f : α → Option β) : (some a).bind f = f a := rfl
theorem Xb {p : Prop} [Decidable p] (h : ¬ p) : decide p = false := _root_.decide_eq_false h
theorem Xc {p : Prop} [Decidable p] (h : p) : decide p = true := _root_.decide_eq_true h
theorem Xd {α : Sort u} (a b : α) : (bif true then a else b) = a := rfl
theorem Xe {α : Sort u} (a b : α) : (bif false then a else b) = b := rfl
theorem Xf (h : Decidable True) : decide True = true := _root_.decide_true h
theorem Xg (h : Decidable False) : decide False = false := _root_.decide_false h
theorem Xh (a b : Bool) : ((a && b) = true) = (a = true ∧ b = true) := _root_.Bool.and_eq_true a b
theorem Xi {p : Prop} [Decidable p] : (decide p = true) = p := _root_.decide_eq_true_eq
theorem Xj (n : Nat) : (n : Int).toNat = n := _root_.Int.toNat_natCast n
theorem Xk {n m : Nat} : (n : Int) < (m : Int) ↔ n < m := _root_.Int.ofNat_lt
theorem Xl (n : Nat) : n ≤ n := _root_.Nat.le_refl n
theorem Xm {α : Type u} {as bs : List α} : (as ++ bs).length = as.length + bs.length := _root_.List.length_append
theorem Xn (a : Int) : ¬ a < a := _root_.Int.lt_irrefl a
abbrev Xo := ByteArray
end Go.Rx
namespace Go.Rx
open Go.RowKit
inductive Ty where
 | int (k:IntKind) | bool | str | err
 | prod (a b:Ty)
 | slice (e:TypeId) (t:Ty)
 | arr (n:Nat) (t:Ty)
 deriving DecidableEq,Inhabited
abbrev Ty.den:Ty→Type
 | .int _=>Int
 | .bool=>Bool
 | .str=>Xo
 | .err=>Bool
 | .prod a b=>a.den×b.den
 | .slice _ t=>List t.den
 | .arr _ t=>List t.den
def Ty.dflt:(t:Ty)→t.den
 | .int _=>(0:Int)
 | .bool=>false
 | .str=>(⟨#[]⟩:Xo)
 | .err=>true
 | .prod a b=>(a.dflt,b.dflt)
 | .slice _ t=>([]:List t.den)
 | .arr n t=>List.replicate n t.dflt
def castTo {t u:Ty} (h:t=u) (x:t.den):u.den:=h▸x
def Ty.sz:Ty→Nat
 | .int _ | .bool | .str | .err | .slice _ _=>1
 | .prod a b=>a.sz+b.sz
 | .arr n t=>n*t.sz
def Ty.flat:Ty→Bool
 | .int _ | .bool | .str | .err=>true
 | .slice _ _=>false
 | .prod a b=>a.flat && b.flat
 | .arr _ t=>t.flat
def rowTys:Ty→List TypeId
 | .prod a b=>rowTys a++rowTys b
 | .slice e t=>e::rowTys t
 | .arr _ t=>rowTys t
 | _=>[]
def Ty.agg:Ty→Bool
 | .prod _ _ | .arr _ _=>true
 | _=>false
inductive Perm where
 | ro | dead
 | own (q:Perm)
 | pr (a b:Perm)
 | hole (i:Nat) (q:Perm)
 deriving DecidableEq,Inhabited
def Perm.l:Perm→Perm | .pr a _=>a | .dead=> .dead | _=> .ro
def Perm.r:Perm→Perm | .pr _ b=>b | .dead=> .dead | _=> .ro
def Perm.plain:Perm→Bool
 | .ro=>true
 | .pr a b=>a.plain && b.plain
 | _=>false
inductive Gh where
 | leaf
 | hd (v:Value)
 | pr (a b:Gh)
 | many (gs:Nat→Gh)
 | row (v:Value) (gs:Nat→Gh)
def Gh.l:Gh→Gh | .pr a _=>a | _=> .leaf
def Gh.r:Gh→Gh | .pr _ b=>b | _=> .leaf
def Gh.at:Gh→Nat→Gh | .many gs,i=>gs i | .row _ gs,i=>gs i | _,_=> .leaf
def Gh.head:Gh→Value | .row v _=>v | .hd v=>v | _=>undef
def catN (f:Nat→List Value):Nat→List Value
 | 0=>[]
 | n+1=>catN f n++f n
def cells:(t:Ty)→t.den→Gh→List Value
 | .int k,x,_=>[.int k x]
 | .bool,x,_=>[.bool x]
 | .str,x,_=>[.string x]
 | .err,_,g=>[g.head]
 | .prod a b,x,g=>cells a x.1 g.l++cells b x.2 g.r
 | .slice _ _,_,g=>[g.head]
 | .arr n t,xs,g=>catN (fun i=>cells t (xs.getD i t.dflt) (g.at i)) n
def toV (t:Ty) (cs:List Value):Value:=if t.agg then .agg cs.toArray else cs.headD undef
def MemAt (w:World) (a:Addr) (cs:List Value):Prop:=∀j u,cs[j]? =some u→w.cell? (a.add j)=some u
def FrOk (t:Ty) (m:Nat) (fr:Nat×Nat):Prop:=fr=(0,0)∨(t= .int .u8∧fr=(m,m+1))
def OwnR (w:World) (t:Ty) (e:TypeId) (size:Nat) (v:Value) (n:Nat) (xs:List Value):Prop:=
 xs.length=n*size∧((v= .slice none 0 0∧n=0)∨
  ∃g cap cur,v= .slice (some ⟨g,0,none⟩) n cap∧(∃fr,FrOk t cur.size fr∧w.heap[g]? =some (.cells cur e fr))∧n≤cap∧cap≤maxLen∧cur.size=cap*size∧cur.toList.take (n*size)=xs)
theorem OwnR.of {w:World} {t:Ty} {b:Nat} {e:TypeId} {size:Nat} {v:Value} {n:Nat} {xs:List Value} (h:w.ownsRow b e size v n xs):OwnR w t e size v n xs:=by
 obtain ⟨h1,h2⟩:=h;refine ⟨h1,h2.imp id ?_⟩
 rintro ⟨g,cap,cur,rfl,_,hh,r⟩
 exact ⟨g,cap,cur,rfl,⟨_, .inl rfl,hh⟩,r⟩
theorem OwnR.plain {w:World} {t:Ty} {e:TypeId} {size:Nat} {v:Value} {n:Nat} {xs:List Value} (h:OwnR w t e size v n xs) (ht:t≠ .int .u8):w.ownsRow 0 e size v n xs:=by
 obtain ⟨h1,h2⟩:=h;refine ⟨h1,h2.imp id ?_⟩
 rintro ⟨g,cap,cur,rfl,⟨fr,hf,hh⟩,r⟩
 rcases hf with rfl | ⟨e,_⟩
 ·exact ⟨g,cap,cur,rfl,Nat.zero_le _,hh,r⟩
 ·exact absurd e ht
def Holds (w:World) (T:TypeId→Nat→Prop):(t:Ty)→Perm→t.den→Gh→Prop
 | .int _,_,_,_=>True
 | .bool,_,_,_=>True
 | .str,_,_,_=>True
 | .err,_,x,g=>(g.head= .nilIface∧x=true)∨(∃t v,g.head= .iface t v∧x=false)
 | .prod a b,p,x,g=>Holds w T a p.l x.1 g.l∧Holds w T b p.r x.2 g.r
 | .arr n t,_,xs,g=>xs.length=n∧∀i,i<n→Holds w T t .ro (xs.getD i t.dflt) (g.at i)
 | .slice e t, .ro,xs,g=>(∃A cap,g.head= .slice A xs.length cap∧xs.length≤cap∧(xs≠[]→∀a,A=some a→a.spot=none)∧(A=none→cap=0)∧(xs≠[]→∃a,A=some a∧T e a.block)∧
   ∀a,A=some a→MemAt w a (catN (fun i=>cells t (xs.getD i t.dflt) (g.at i)) xs.length))∧
   ∀i,i<xs.length→Holds w T t .ro (xs.getD i t.dflt) (g.at i)
 | .slice e t, .own q,xs,g=>OwnR w t e t.sz g.head xs.length (catN (fun i=>cells t (xs.getD i t.dflt) (g.at i)) xs.length)∧
   ∀i,i<xs.length→Holds w T t q (xs.getD i t.dflt) (g.at i)
 | .slice e t, .hole z0 q,xs,g=>OwnR w t e t.sz g.head xs.length (catN (fun i=>cells t (xs.getD i t.dflt) (g.at i)) xs.length)∧
   ∀i,i<xs.length→Holds w T t (if i=z0 then .dead else q) (xs.getD i t.dflt) (g.at i)
 | .slice _ _, .dead,_,g=>∃A n cap,g.head= .slice A n cap
 | .slice _ _, .pr _ _,_,_=>False
def catF (f:Nat→List Nat):Nat→List Nat
 | 0=>[]
 | n+1=>catF f n++f n
def foot:(t:Ty)→Perm→t.den→Gh→List Nat
 | .prod a b,p,x,g=>foot a p.l x.1 g.l++foot b p.r x.2 g.r
 | .slice _ t, .own q,xs,g=>g.head.ownBlock.toList++catF (fun i=>foot t q (xs.getD i t.dflt) (g.at i)) xs.length
 | .slice _ t, .hole z0 q,xs,g=>g.head.ownBlock.toList++catF (fun i=>foot t (if i=z0 then .dead else q) (xs.getD i t.dflt) (g.at i)) xs.length
 | _,_,_,_=>[]
theorem Za8 {f g:Nat→List Value}:∀ {n:Nat},(∀i,i<n→f i=g i)→catN f n=catN g n
 | 0,_=>rfl
 | n+1,h=>by simp only[catN];rw[Za8 (fun i hi=>h i (by omega)),h n (by omega)]
theorem Zdu {f g:Nat→List Nat}:∀ {n:Nat},(∀i,i<n→f i=g i)→catF f n=catF g n
 | 0,_=>rfl
 | n+1,h=>by simp only[catF];rw[Zdu (fun i hi=>h i (by omega)),h n (by omega)]
theorem Zw {f:Nat→List Nat} {k:Nat}:∀ {n:Nat},k∈catF f n↔∃i,i<n∧k∈f i
 | 0=>by simp [catF]
 | n+1=>by
  simp only[catF,List.mem_append,Zw (n:=n)];constructor
  ·rintro (⟨i,h,hk⟩ | h)
   ·exact ⟨i,by omega,hk⟩
   ·exact ⟨n,by omega,h⟩
  ·rintro ⟨i,h,hk⟩
   by_cases e:i=n
   ·subst e;exact .inr hk
   ·exact .inl ⟨i,by omega,hk⟩
theorem ZR {f:Nat→List Value} {s:Nat}:∀ {n:Nat},(∀i,i<n→(f i).length=s)→(catN f n).length=n*s
 | 0,_=>by simp [catN]
 | n+1,h=>by simp only[catN,Xm];rw[ZR (fun i hi=>h i (by omega)),h n (by omega),Nat.add_mul,Nat.one_mul]
theorem Za:∀(t:Ty) (x:t.den) (g:Gh),(cells t x g).length=t.sz
 | .int _,_,_ | .bool,_,_ | .str,_,_ | .err,_,_ | .slice _ _,_,_=>rfl
 | .prod a b,x,g=>by simp [cells,Ty.sz,Za a,Za b]
 | .arr n t,xs,g=>by simp only[cells,Ty.sz];exact ZR (fun i _=>Za t _ _)
theorem Zdv {f:Nat→List Value} {s:Nat}:∀ {n:Nat},(∀i,i<n→(f i).length=s)→∀i j,i<n→j<s→(catN f n)[i*s+j]? =(f i)[j]?
 | 0,_,i,_,hi,_=>absurd hi (by omega)
 | n+1,h,i,j,hi,hj=>by
  have hl:=ZR (f:=f) (s:=s) (n:=n) (fun k hk=>h k (by omega))
  simp only[catN];by_cases e:i=n
  ·subst e
   rw[List.getElem?_append_right (by omega)]
   congr 1;omega
  ·have:i*s+j<n*s:=by
    have:(i+1)*s≤n*s:=Nat.mul_le_mul_right s (by omega);rw[Nat.add_mul] at this;omega
   rw[List.getElem?_append_left (by omega)];exact Zdv (fun k hk=>h k (by omega)) i j (by omega) hj
theorem Ze7 (a:Addr) (i j:Nat) (h:a.spot=none):(a.add i).add j=a.add (i+j):=by
 obtain ⟨b,o,s⟩:=a;simp only at h;subst h;unfold Addr.add;by_cases hi:i=0<;>by_cases hj:j=0<;>simp [hi,hj]<;>omega
theorem ZP (a:Addr) (i:Nat) (h:a.spot=none):(a.add i).spot=none:=by unfold Addr.add;split<;>simp [h]
theorem Zs (a:Addr) (i:Nat):(a.add i).block=a.block:=by unfold Addr.add;split<;>rfl
theorem ZaN (a:Addr) (i:Nat):(a.add i).off=a.off+i:=by unfold Addr.add;split<;>simp_all
theorem MemAt.left {w:World} {a:Addr} {l m:List Value} (h:MemAt w a (l++m)):MemAt w a l:=fun j u hj=>
 h j u (by rw[List.getElem?_append_left (by have:=(List.getElem?_eq_some_iff.1 hj).1;omega)];exact hj)
theorem MemAt.right {w:World} {a:Addr} {l m:List Value} (hs:a.spot=none) (h:MemAt w a (l++m)):MemAt w (a.add l.length) m:=fun j u hj=>by
 rw[Ze7 _ _ _ hs];exact h (l.length+j) u (by rw[List.getElem?_append_right (by omega)];simpa using hj)
theorem MemAt.append {w:World} {a:Addr} {l m:List Value} (hs:a.spot=none) (h:MemAt w a l) (h':MemAt w (a.add l.length) m):MemAt w a (l++m):=fun j u hj=>by
 by_cases hl:j<l.length
 ·exact h j u (by rw[List.getElem?_append_left hl] at hj;exact hj)
 ·rw[List.getElem?_append_right (by omega)] at hj
  have:=h' _ u hj;rw[Ze7 _ _ _ hs] at this
  rwa [show l.length+(j - l.length)=j by omega] at this
theorem MemAt.elem {w:World} {a:Addr} {f:Nat→List Value} {s n:Nat} (hs:a.spot=none) (hf:∀i,i<n→(f i).length=s) (h:MemAt w a (catN f n)) (i:Nat) (hi:i<n):MemAt w (a.add (i*s)) (f i):=fun j u hj=>by
 rw[Ze7 _ _ _ hs];have hj':j<s:=by have:=(List.getElem?_eq_some_iff.1 hj).1;rw[hf i hi] at this;exact this
 exact h _ u (by rw[Zdv hf i j hi hj'];exact hj)
theorem MemAt.agree {w w':World} {a:Addr} {cs:List Value} (h:MemAt w a cs) (hb:cs≠[]→w'.heap[a.block]? =w.heap[a.block]?):MemAt w' a cs:=fun j u hj=>by
 have hne:cs≠[]:=by rintro rfl;simp at hj
 rw[World.cell?_of_block (w:=w) (by rw[Zs];exact hb hne)]
 exact h j u hj
theorem ZcC {w w':World} {t:Ty} {e:TypeId} {s:Nat} {v:Value} {n:Nat} {xs:List Value} (h:OwnR w t e s v n xs) (hb:∀k,v.ownBlock=some k→w'.heap[k]? =w.heap[k]?):OwnR w' t e s v n xs:=by
 obtain ⟨h1,h2⟩:=h;refine ⟨h1, ?_⟩;rcases h2 with h2 | ⟨g,cap,cur,rfl,hh,r⟩
 ·exact .inl h2
 ·exact .inr ⟨g,cap,cur,rfl,by rw[hb g rfl];exact hh,r⟩
theorem Holds.agree {w w':World} {T T':TypeId→Nat→Prop}:∀(t:Ty) (p:Perm) (x:t.den) (g:Gh),Holds w T t p x g→
  (∀k,k∈foot t p x g→w'.heap[k]? =w.heap[k]?)→(∀e k,T e k→w'.heap[k]? =w.heap[k]? ∧T' e k)→Holds w' T' t p x g
 | .int _,_,_,_,_,_,_ | .bool,_,_,_,_,_,_ | .str,_,_,_,_,_,_=>by simp [Holds]
 | .err,_,_,_,h,_,_=>by simpa [Holds] using h
 | .prod a b,p,x,g,h,hf,hT=>by
  simp only[Holds] at h ⊢;simp only[foot,List.mem_append] at hf;exact ⟨Holds.agree a _ _ _ h.1 (fun k hk=>hf k (.inl hk)) hT,Holds.agree b _ _ _ h.2 (fun k hk=>hf k (.inr hk)) hT⟩
 | .arr n t,p,xs,g,h,hf,hT=>by
  simp only[Holds] at h ⊢;refine ⟨h.1,fun i hi=>Holds.agree t _ _ _ (h.2 i hi) (fun k hk=> ?_) hT⟩;cases t<;>simp [foot] at hk
  case prod a b=>
   exfalso
   exact foot_ro (.prod a b) _ _ k (by simpa [foot,Perm.l,Perm.r] using hk)
 | .slice e t, .ro,xs,g,h,hf,hT=>by
  simp only[Holds] at h ⊢;obtain ⟨⟨A,cap,h1,h2,h3,h3',h4,h5⟩,h6⟩:=h;refine ⟨⟨A,cap,h1,h2,h3,h3',fun hne=>let ⟨a,ha,hb⟩:=h4 hne;⟨a,ha,(hT _ _ hb).2⟩,fun a ha=>(h5 a ha).agree fun hne=> ?_⟩,fun i hi=>Holds.agree t _ _ _ (h6 i hi) (fun k hk=>absurd hk (foot_ro t _ _ k)) hT⟩
  have hx:xs≠[]:=by rintro rfl;simp [catN] at hne
  obtain ⟨a',ha',hb⟩:=h4 hx;rw[ha'] at ha;cases ha;exact (hT _ _ hb).1
 | .slice e t, .own q,xs,g,h,hf,hT=>by
  simp only[Holds] at h ⊢;simp only[foot,List.mem_append,Zw] at hf;refine ⟨ZcC h.1 (fun k hk=>hf k (.inl (by simp [hk]))),fun i hi=>Holds.agree t _ _ _ (h.2 i hi) (fun k hk=>hf k (.inr ⟨i,hi,hk⟩)) hT⟩
 | .slice e t, .hole z0 q,xs,g,h,hf,hT=>by
  simp only[Holds] at h ⊢;simp only[foot,List.mem_append,Zw] at hf;refine ⟨ZcC h.1 (fun k hk=>hf k (.inl (by simp [hk]))),fun i hi=>Holds.agree t _ _ _ (h.2 i hi) (fun k hk=>hf k (.inr ⟨i,hi,hk⟩)) hT⟩
 | .slice e t, .dead,xs,g,h,_,_=>by simpa [Holds] using h
 | .slice e t, .pr _ _,xs,g,h,_,_=>by simp [Holds] at h
where
 foot_ro:∀(t:Ty) (x:t.den) (g:Gh) (k:Nat),k∉foot t .ro x g
 | .int _,_,_,_ | .bool,_,_,_ | .str,_,_,_ | .err,_,_,_ | .slice _ _,_,_,_ | .arr _ _,_,_,_=>by simp [foot]
 | .prod a b,x,g,k=>by simp only[foot,Perm.l,Perm.r,List.mem_append,not_or];exact ⟨foot_ro a _ _ k,foot_ro b _ _ k⟩
theorem foot_ro (t:Ty) (x:t.den) (g:Gh):foot t .ro x g=[]:=List.eq_nil_iff_forall_not_mem.2 (Holds.agree.foot_ro t x g)
end Go.Rx
namespace Go.Rx
open Go.RowKit
inductive Step where
 | fst | snd | idx (i:Nat)
 deriving DecidableEq,Inhabited
abbrev Path:=List Step
structure Sub where
 ty:Ty
 p:Perm
 x:ty.den
def Perm.mk (a b:Perm):Perm:=match a,b with | .ro, .ro=> .ro | a,b=> .pr a b
def sub:(t:Ty)→Perm→t.den→Path→Option Sub
 | t,p,x,[]=>some ⟨t,p,x⟩
 | .prod a _,p,x, .fst::s=>sub a p.l x.1 s
 | .prod _ b,p,x, .snd::s=>sub b p.r x.2 s
 | .arr _ t,_,xs, .idx i::s=>sub t .ro (xs.getD i t.dflt) s
 | .slice _ t, .own q,xs, .idx i::s=>sub t q (xs.getD i t.dflt) s
 | .slice _ t, .hole z0 q,xs, .idx i::s=>sub t (if i=z0 then .dead else q) (xs.getD i t.dflt) s
 | _,_,_,_=>none
def put:(t:Ty)→Perm→t.den→Path→(t':Ty)→Perm→t'.den→Option (Perm×t.den)
 | t,_,_,[],t',q,y=>if h:t'=t then some (q,castTo h y) else none
 | .prod a _,p,x, .fst::s,t',q,y=>(put a p.l x.1 s t' q y).map fun z=>(Perm.mk z.1 p.r,(z.2,x.2))
 | .prod _ b,p,x, .snd::s,t',q,y=>(put b p.r x.2 s t' q y).map fun z=>(Perm.mk p.l z.1,(x.1,z.2))
 | .arr _ t,p,xs, .idx i::s,t',q,y=>(put t .ro (xs.getD i t.dflt) s t' q y).bind fun z=>if z.1= .ro then some (p,(xs.set i z.2:List t.den)) else none
 | .slice _ t, .own r,xs, .idx i::s,t',q,y=>(put t r (xs.getD i t.dflt) s t' q y).bind fun z=>if z.1=r then some (.own r,(xs.set i z.2:List t.den)) else none
 | _,_,_,_,_,_,_=>none
def inR:(t:Ty)→t.den→Path→Prop
 | _,_,[]=>True
 | .prod a _,x, .fst::s=>inR a x.1 s
 | .prod _ b,x, .snd::s=>inR b x.2 s
 | .arr n t,xs, .idx i::s=>(i<n∧i<xs.length)∧inR t (xs.getD i t.dflt) s
 | .slice _ t,xs, .idx i::s=>i<xs.length∧inR t (xs.getD i t.dflt) s
 | _,_,_=>False
def deep:(t:Ty)→Path→Bool
 | .prod a _, .fst::s=>deep a s
 | .prod _ b, .snd::s=>deep b s
 | .arr _ t, .idx _::s=>deep t s
 | .slice _ _, .idx _::_=>true
 | _,_=>false
def Value.base:Value→Addr | .slice (some a) _ _=>a | _=>default
def addrOf:(t:Ty)→Gh→Path→Addr→Addr
 | .prod a _,g, .fst::s,ad=>addrOf a g.l s ad
 | .prod a b,g, .snd::s,ad=>addrOf b g.r s (ad.add a.sz)
 | .arr _ t,g, .idx i::s,ad=>addrOf t (g.at i) s (ad.add (i*t.sz))
 | .slice _ t,g, .idx i::s,_=>addrOf t (g.at i) s ((Value.base g.head).add (i*t.sz))
 | _,_,_,ad=>ad
def ghAt:(t:Ty)→Gh→Path→Gh
 | .prod a _,g, .fst::s=>ghAt a g.l s
 | .prod _ b,g, .snd::s=>ghAt b g.r s
 | .arr _ t,g, .idx i::s=>ghAt t (g.at i) s
 | .slice _ t,g, .idx i::s=>ghAt t (g.at i) s
 | _,g,_=>g
def ghSet:(t:Ty)→Gh→Path→Gh→Gh
 | .prod a _,g, .fst::s,y=> .pr (ghSet a g.l s y) g.r
 | .prod _ b,g, .snd::s,y=> .pr g.l (ghSet b g.r s y)
 | .arr _ t,g, .idx i::s,y=> .many fun j=>if j=i then ghSet t (g.at i) s y else g.at j
 | .slice _ t,g, .idx i::s,y=> .row g.head fun j=>if j=i then ghSet t (g.at i) s y else g.at j
 | _,_,_,y=>y
structure Stored (w w':World) (a:Addr) (ys:List Value):Prop where
 os:w'.os=w.os
 tape:w'.tape=w.tape
 output:w'.output=w.output
 size:w'.heap.size=w.heap.size
 other:∀k,k≠a.block→w'.heap[k]? =w.heap[k]?
 here:∃cur cur' e fr,w.heap[a.block]? =some (.cells cur e fr)∧w'.heap[a.block]? =some (.cells cur' e fr)∧cur'.size=cur.size∧
  ∀j,cur'[j]? =if a.off≤j∧j<a.off+ys.length then ys[j - a.off]? else cur[j]?
theorem ZcD {w:World} {a:Addr} {cur:Array Value} {e:TypeId} {fr:Nat×Nat} (hs:a.spot=none) (h:w.heap[a.block]? =some (.cells cur e fr)) (j:Nat):w.cell? (a.add j)=cur[a.off+j]? :=by
 unfold World.cell?;rw[Zs,h];simp only[ZP a j hs,ZaN,Option.isSome_none,Bool.false_eq_true,if_false]
theorem Stored.mem {w w':World} {a:Addr} {ys:List Value} (h:Stored w w' a ys) (hs:a.spot=none):MemAt w' a ys:=fun j u hj=>by
 obtain ⟨cur,cur',e,_,_,h2,_,h4⟩:=h.here;rw[ZcD hs h2,h4];have:j<ys.length:=(List.getElem?_eq_some_iff.1 hj).1;rw[if_pos (by omega)]
 simpa using hj
theorem Stored.apart {w w':World} {a b:Addr} {ys cs:List Value} (h:Stored w w' a ys) (hb:b.spot=none) (hm:MemAt w b cs) (hd:b.block≠a.block∨b.off+cs.length≤a.off∨a.off+ys.length≤b.off):MemAt w' b cs:=by
 by_cases e:b.block=a.block
 ·intro j u hj
  have hu:=hm j u hj;have hj':j<cs.length:=(List.getElem?_eq_some_iff.1 hj).1;obtain ⟨cur,cur',e',_,h1,h2,_,h4⟩:=h.here;rw[←e] at h1 h2;rw[ZcD hb h1] at hu;rw[ZcD hb h2,h4,if_neg (by rcases hd with hd | hd | hd<;>first | exact absurd e hd | omega)]
  exact hu
 ·exact hm.agree fun _=>h.other _ e
theorem ZS {w:World} {t:Ty} {e:TypeId} {s:Nat} {v:Value} {n:Nat} {xs:List Value} (h:OwnR w t e s v n xs) (hn:0<n):
  ∃k cap cur,v= .slice (some ⟨k,0,none⟩) n cap∧v.ownBlock=some k∧Value.base v=⟨k,0,none⟩∧(∃fr,FrOk t cur.size fr∧w.heap[k]? =some (.cells cur e fr))∧n≤cap∧cap≤maxLen∧cur.size=cap*s∧MemAt w ⟨k,0,none⟩ xs:=by
 obtain ⟨h1,h2⟩:=h;rcases h2 with ⟨_,rfl⟩ | ⟨g,cap,cur,rfl,hfh,hc,hm,hs,ht⟩
 ·omega
 ·refine ⟨g,cap,cur,rfl,rfl,rfl,hfh,hc,hm,hs,fun j u hj=> ?_⟩
  obtain ⟨fr,_,hh⟩:=hfh;rw[ZcD (a:=⟨g,0,none⟩) rfl hh,Nat.zero_add];rw[←ht,List.getElem?_take] at hj;split at hj
  ·simpa using hj
  ·cases hj
theorem OwnR.cells {w:World} {t:Ty} {e:TypeId} {s:Nat} {v:Value} {n:Nat} {xs:List Value} (h:OwnR w t e s v n xs) {g cap:Nat} (hv:v= .slice (some ⟨g,0,none⟩) n cap):MemAt w ⟨g,0,none⟩ xs:=by
 by_cases hn:0<n
 ·obtain ⟨k,cap',cur,e1,_,_,_,_,_,_,hx⟩:=ZS h hn
  rw[hv] at e1;cases e1;exact hx
 ·have:xs=[]:=List.eq_nil_of_length_eq_zero (by rw[h.1,show n=0 by omega,Nat.zero_mul])
  subst this;intro j u hj;simp at hj
theorem ZdP {w:World} {t:Ty} {e:TypeId} {s:Nat} {n:Nat} {xs:List Value} {k cap:Nat} {cur:Array Value} {fr:Nat×Nat} (hl:xs.length=n*s) (hf:FrOk t cur.size fr) (h:w.heap[k]? =some (.cells cur e fr)) (hc:n≤cap) (hm:cap≤maxLen) (hs:cur.size=cap*s)
  (hx:MemAt w ⟨k,0,none⟩ xs):OwnR w t e s (.slice (some ⟨k,0,none⟩) n cap) n xs:=by
 refine ⟨hl, .inr ⟨k,cap,cur,rfl,⟨fr,hf,h⟩,hc,hm,hs, ?_⟩⟩;have hle:n*s≤cap*s:=Nat.mul_le_mul_right s hc;apply List.ext_getElem?;intro j;rw[List.getElem?_take];by_cases hj:j<n*s
 ·rw[if_pos hj]
  have hj':j<xs.length:=by omega
  have:=hx j xs[j] (by simp [hj']);rw[ZcD (a:=⟨k,0,none⟩) rfl h,Nat.zero_add] at this;rw[List.getElem?_eq_getElem hj',←this];simp
 ·rw[if_neg hj,List.getElem?_eq_none (by omega)]
theorem ZD {w:World} {T:TypeId→Nat→Prop}:∀(t:Ty) (p:Perm) (x:t.den) (g:Gh) (s:Path) (y:Sub),Holds w T t p x g→inR t x s→sub t p x s=some y→
  Holds w T y.ty y.p y.x (ghAt t g s)
 | t,p,x,g,[],y,h,_,hs=>by
  have:y=⟨t,p,x⟩:=by cases t<;>cases p<;>simpa [sub,eq_comm] using hs
  subst this;cases t<;>simpa [ghAt] using h
 | .prod a b,p,x,g, .fst::s,y,h,hr,hs=>by
  simp only[Holds] at h;simp only[inR] at hr;simp only[sub] at hs;simp only[ghAt];exact ZD a _ _ _ s y h.1 hr hs
 | .prod a b,p,x,g, .snd::s,y,h,hr,hs=>by
  simp only[Holds] at h;simp only[inR] at hr;simp only[sub] at hs;simp only[ghAt];exact ZD b _ _ _ s y h.2 hr hs
 | .arr n t,p,xs,g, .idx i::s,y,h,hr,hs=>by
  simp only[Holds] at h;simp only[inR] at hr;simp only[sub] at hs;simp only[ghAt];exact ZD t _ _ _ s y (h.2 i hr.1.1) hr.2 hs
 | .slice e t, .own q,xs,g, .idx i::s,y,h,hr,hs=>by
  simp only[Holds] at h;simp only[inR] at hr;simp only[sub] at hs;simp only[ghAt];exact ZD t _ _ _ s y (h.2 i hr.1) hr.2 hs
 | .slice e t, .hole z0 q,xs,g, .idx i::s,y,h,hr,hs=>by
  simp only[Holds] at h;simp only[inR] at hr;simp only[sub] at hs;simp only[ghAt];exact ZD t _ _ _ s y (h.2 i hr.1) hr.2 hs
 | .int _,_,_,_,_::_,_,_,_,hs | .bool,_,_,_,_::_,_,_,_,hs | .str,_,_,_,_::_,_,_,_,hs | .err,_,_,_,_::_,_,_,_,hs=>by simp [sub] at hs
 | .prod _ _,_,_,_, .idx _::_,_,_,_,hs | .arr _ _,_,_,_, .fst::_,_,_,_,hs | .arr _ _,_,_,_, .snd::_,_,_,_,hs=>by simp [sub] at hs
 | .slice _ _, .own _,_,_, .fst::_,_,_,_,hs | .slice _ _, .own _,_,_, .snd::_,_,_,_,hs | .slice _ _, .hole _ _,_,_, .fst::_,_,_,_,hs | .slice _ _, .hole _ _,_,_, .snd::_,_,_,_,hs=>by simp [sub] at hs
 | .slice _ _, .ro,_,_,_::_,_,_,_,hs | .slice _ _, .dead,_,_,_::_,_,_,_,hs | .slice _ _, .pr _ _,_,_,_::_,_,_,_,hs=>by simp [sub] at hs
theorem ZaA {w:World} {T:TypeId→Nat→Prop}:∀(t:Ty) (p:Perm) (x:t.den) (g:Gh) (s:Path) (y:Sub) (a:Addr),Holds w T t p x g→a.spot=none→(deep t s=true∨MemAt w a (cells t x g))→inR t x s→sub t p x s=some y→
  MemAt w (addrOf t g s a) (cells y.ty y.x (ghAt t g s))∧(addrOf t g s a).spot=none∧
   (deep t s=true→(addrOf t g s a).block∈foot t p x g)∧(deep t s=false→(addrOf t g s a).block=a.block∧a.off≤(addrOf t g s a).off∧(addrOf t g s a).off+y.ty.sz≤a.off+t.sz)
 | t,p,x,g,[],y,a,h,hsp,hm,_,hs=>by
  have:y=⟨t,p,x⟩:=by cases t<;>cases p<;>simpa [sub,eq_comm] using hs
  subst this;have h0:deep t []=false:=by cases t<;>rfl
  have h1:addrOf t g [] a=a:=by cases t<;>rfl
  have h2:ghAt t g []=g:=by cases t<;>rfl
  rw[h1,h2,h0];exact ⟨hm.resolve_left (by simp [h0]),hsp,by simp,fun _=>⟨rfl,Xl _,Xl _⟩⟩
 | .prod a b,p,x,g, .fst::s,y,ad,h,hsp,hm,hr,hs=>by
  simp only[Holds] at h;simp only[inR] at hr;simp only[sub] at hs;simp only[ghAt,addrOf,deep,foot,Ty.sz] at hm ⊢;obtain ⟨h1,h2,h3,h4⟩:=ZaA a _ _ _ s y ad h.1 hsp (hm.imp id (fun hm=>by simp only[cells] at hm;exact hm.left)) hr hs
  exact ⟨h1,h2,fun hd=>List.mem_append_left _ (h3 hd),fun hd=>⟨(h4 hd).1,(h4 hd).2.1,by have:=(h4 hd).2.2;omega⟩⟩
 | .prod a b,p,x,g, .snd::s,y,ad,h,hsp,hm,hr,hs=>by
  simp only[Holds] at h;simp only[inR] at hr;simp only[sub] at hs;simp only[ghAt,addrOf,deep,foot,Ty.sz] at hm ⊢;obtain ⟨h1,h2,h3,h4⟩:=ZaA b _ _ _ s y (ad.add a.sz) h.2 (ZP _ _ hsp) (hm.imp id (fun hm=>by simp only[cells] at hm;have:=hm.right hsp;rwa [Za] at this)) hr hs
  refine ⟨h1,h2,fun hd=>List.mem_append_right _ (h3 hd),fun hd=>⟨(h4 hd).1.trans (Zs _ _), ?_, ?_⟩⟩
  ·have:=(h4 hd).2.1;rw[ZaN] at this;omega
  ·have:=(h4 hd).2.2;rw[ZaN] at this;omega
 | .arr n t,p,xs,g, .idx i::s,y,ad,h,hsp,hm,hr,hs=>by
  simp only[Holds] at h;simp only[inR] at hr;simp only[sub] at hs;simp only[ghAt,addrOf,deep,foot,Ty.sz] at hm ⊢;obtain ⟨h1,h2,h3,h4⟩:=ZaA t _ _ _ s y (ad.add (i*t.sz)) (h.2 i hr.1.1) (ZP _ _ hsp) (hm.imp id (fun hm=>by simp only[cells] at hm;exact hm.elem hsp (fun _ _=>Za _ _ _) i hr.1.1)) hr.2 hs
  refine ⟨h1,h2,fun hd=>absurd (h3 hd) (by simp [foot_ro]),fun hd=>⟨(h4 hd).1.trans (Zs _ _), ?_, ?_⟩⟩
  ·have:=(h4 hd).2.1;rw[ZaN] at this;omega
  ·have:=(h4 hd).2.2;rw[ZaN] at this
   have:(i+1)*t.sz≤n*t.sz:=Nat.mul_le_mul_right _ hr.1.1;rw[Nat.add_mul] at this;omega
 | .slice e t, .own q,xs,g, .idx i::s,y,ad,h,hsp,hm,hr,hs=>by
  simp only[Holds] at h;simp only[inR] at hr;simp only[sub] at hs;simp only[ghAt,addrOf,deep,foot,Ty.sz] at hm ⊢;obtain ⟨k,cap,cur,hv,hb,hbase,hh,hc,hcm,hcs,hx⟩:=ZS h.1 (by omega);rw[hbase];obtain ⟨h1,h2,h3,h4⟩:=ZaA t _ _ _ s y ((⟨k,0,none⟩:Addr).add (i*t.sz)) (h.2 i hr.1) (ZP _ _ rfl) (.inr (hx.elem rfl (fun _ _=>Za _ _ _) i hr.1)) hr.2 hs;refine ⟨h1,h2,fun _=> ?_,by simp⟩;cases hd:deep t s with
  | true=>exact List.mem_append_right _ (Zw.2 ⟨i,hr.1,h3 hd⟩)
  | false=>rw[(h4 hd).1,Zs,hb];simp
 | .slice e t, .hole z0 q,xs,g, .idx i::s,y,ad,h,hsp,hm,hr,hs=>by
  simp only[Holds] at h;simp only[inR] at hr;simp only[sub] at hs;simp only[ghAt,addrOf,deep,foot,Ty.sz] at hm ⊢;obtain ⟨k,cap,cur,hv,hb,hbase,hh,hc,hcm,hcs,hx⟩:=ZS h.1 (by omega);rw[hbase];obtain ⟨h1,h2,h3,h4⟩:=ZaA t _ _ _ s y ((⟨k,0,none⟩:Addr).add (i*t.sz)) (h.2 i hr.1) (ZP _ _ rfl) (.inr (hx.elem rfl (fun _ _=>Za _ _ _) i hr.1)) hr.2 hs;refine ⟨h1,h2,fun _=> ?_,by simp⟩;cases hd:deep t s with
  | true=>exact List.mem_append_right _ (Zw.2 ⟨i,hr.1,h3 hd⟩)
  | false=>rw[(h4 hd).1,Zs,hb];simp
 | .int _,_,_,_,_::_,_,_,_,_,_,_,hs | .bool,_,_,_,_::_,_,_,_,_,_,_,hs | .str,_,_,_,_::_,_,_,_,_,_,_,hs | .err,_,_,_,_::_,_,_,_,_,_,_,hs=>by simp [sub] at hs
 | .prod _ _,_,_,_, .idx _::_,_,_,_,_,_,_,hs | .arr _ _,_,_,_, .fst::_,_,_,_,_,_,_,hs | .arr _ _,_,_,_, .snd::_,_,_,_,_,_,_,hs=>by simp [sub] at hs
 | .slice _ _, .own _,_,_, .fst::_,_,_,_,_,_,_,hs | .slice _ _, .own _,_,_, .snd::_,_,_,_,_,_,_,hs | .slice _ _, .hole _ _,_,_, .fst::_,_,_,_,_,_,_,hs | .slice _ _, .hole _ _,_,_, .snd::_,_,_,_,_,_,_,hs=>by simp [sub] at hs
 | .slice _ _, .ro,_,_,_::_,_,_,_,_,_,_,hs | .slice _ _, .dead,_,_,_::_,_,_,_,_,_,_,hs | .slice _ _, .pr _ _,_,_,_::_,_,_,_,_,_,_,hs=>by simp [sub] at hs
end Go.Rx
namespace Go.Rx
open Go.RowKit
@[simp] theorem Perm.mk_l (a b:Perm):(Perm.mk a b).l=a:=by cases a<;>cases b<;>rfl
@[simp] theorem Perm.mk_r (a b:Perm):(Perm.mk a b).r=b:=by cases a<;>cases b<;>rfl
@[simp] theorem Gh.pr_l (a b:Gh):(Gh.pr a b).l=a:=rfl
@[simp] theorem Gh.pr_r (a b:Gh):(Gh.pr a b).r=b:=rfl
theorem ZH {α:Type} (xs:List α) (i j:Nat) (z d:α) (h:i<xs.length):(xs.set i z).getD j d=if j=i then z else xs.getD j d:=by
 simp only[List.getD_eq_getElem?_getD,List.getElem?_set];by_cases e:i=j
 ·subst e;simp [h]
 ·rw[if_neg e,if_neg (fun h=>e h.symm)]
theorem Zdw {n i:Nat} (hi:i<n) (f:Nat→List Nat):∃A B,∀f':Nat→List Nat,(∀j,j<n→j≠i→f' j=f j)→catF f' n=A++f' i++B:=by
 induction n with
 | zero=>omega
 | succ n ih=>
  by_cases e:i=n
  ·subst e
   refine ⟨catF f i,[],fun f' h=> ?_⟩;simp only[catF,List.append_nil];rw[Zdu (fun j hj=>h j (by omega) (by omega))]
  ·obtain ⟨A,B,h⟩:=ih (by omega)
   refine ⟨A,B++f n,fun f' h'=> ?_⟩;simp only[catF];rw[h f' (fun j hj hne=>h' j (by omega) hne),h' n (by omega) (fun h=>e h.symm)];simp [List.append_assoc]
theorem Z6 {L R:List Nat} (h:(L++R).Nodup) {k:Nat} (hk:k∈L):k∉R:=fun hr=>by
 rw[List.nodup_append] at h;exact h.2.2 k hk k hr rfl
theorem not_mem_of_nodup_append' {L R:List Nat} (h:(L++R).Nodup) {k:Nat} (hk:k∈R):k∉L:=fun hr=>by
 rw[List.nodup_append] at h;exact h.2.2 k hr k hk rfl
theorem Zbt {f:Nat→List Nat}:∀ {n:Nat},(catF f n).Nodup→∀i j,i<n→j<n→i≠j→∀k,k∈f i→k∉f j
 | 0,_,i,_,hi,_,_,_,_=>absurd hi (by omega)
 | n+1,h,i,j,hi,hj,hne,k,hk=>by
  simp only[catF] at h;by_cases ei:i=n
  ·subst ei
   intro hk';exact not_mem_of_nodup_append' h hk (Zw.2 ⟨j,by omega,hk'⟩)
  ·by_cases ej:j=n
   ·subst ej
    exact Z6 h (Zw.2 ⟨i,by omega,hk⟩)
   ·exact Zbt (List.nodup_append.1 h).1 i j (by omega) (by omega) hne k hk
theorem ZaU {f:Nat→List Nat}:∀ {n:Nat},(catF f n).Nodup→∀i,i<n→(f i).Nodup
 | 0,_,i,hi=>absurd hi (by omega)
 | n+1,h,i,hi=>by
  simp only[catF] at h;by_cases ei:i=n
  ·subst ei;exact (List.nodup_append.1 h).2.1
  ·exact ZaU (List.nodup_append.1 h).1 i (by omega)
theorem Zfz {t t':Ty} {p q:Perm} {x:t.den} {y:t'.den} {r:Perm×t.den} (h:put t p x [] t' q y=some r):∃e:t'=t,r=(q,castTo e y):=by
 have:(if h:t'=t then some (q,castTo h y) else none)=some r:=by cases t<;>cases p<;>exact h
 by_cases e:t'=t
 ·rw[dif_pos e] at this;exact ⟨e,(Option.some.inj this).symm⟩
 ·rw[dif_neg e] at this;cases this
theorem Za9 {w w':World} {T:TypeId→Nat→Prop}:∀(t:Ty) (p:Perm) (x:t.den) (g:Gh) (s:Path) (y:Sub) (a:Addr) (q:Perm) (z:y.ty.den) (gz:Gh) (r:Perm×t.den),
  Holds w T t p x g→a.spot=none→(deep t s=true∨(MemAt w a (cells t x g)∧∀e,¬T e a.block))→inR t x s→sub t p x s=some y→put t p x s y.ty q z=some r→
  (foot t p x g).Nodup→a.block∉foot t p x g→(∀k,k∈foot t p x g→∀e,¬T e k)→Holds w' T y.ty q z gz→Stored w w' (addrOf t g s a) (cells y.ty z gz)→
  Holds w' T t r.1 r.2 (ghSet t g s gz)∧(deep t s=true→cells t r.2 (ghSet t g s gz)=cells t x g)∧(deep t s=false→MemAt w' a (cells t r.2 (ghSet t g s gz)))∧
   ∃L R,foot t p x g=L++foot y.ty y.p y.x (ghAt t g s)++R∧foot t r.1 r.2 (ghSet t g s gz)=L++foot y.ty q z gz++R
 | t,p,x,g,[],y,a,q,z,gz,r,_,hsp,_,_,hs,hp,_,_,_,hz,hst=>by
  have:y=⟨t,p,x⟩:=by cases t<;>cases p<;>simpa [sub,eq_comm] using hs
  subst this;obtain ⟨_,rfl⟩:=Zfz hp;have h0:deep t []=false:=by cases t<;>rfl
  have h1:addrOf t g [] a=a:=by cases t<;>rfl
  have h2:ghAt t g []=g:=by cases t<;>rfl
  have h3:ghSet t g [] gz=gz:=by cases t<;>rfl
  rw[h1] at hst;rw[h0,h2,h3];exact ⟨hz,by simp,fun _=>hst.mem hsp,[],[],by simp,by simp [castTo]⟩
 | .prod ta tb,p,x,g, .fst::s,y,a,q,z,gz,r,h,hsp,hm,hr,hs,hp,hnd,hab,hT,hz,hst=>by
  have hpos:=ZaA (.prod ta tb) p x g (.fst::s) y a h hsp (hm.imp id And.left) hr hs;simp only[Holds] at h;simp only[inR] at hr;simp only[sub] at hs;simp only[put,Option.map_eq_some_iff] at hp;obtain ⟨z',hp,rfl⟩:=hp;simp only[foot] at hnd hab hT;simp only[addrOf,deep,foot] at hst hpos hm ⊢;have hmodT:∀e,¬T e (addrOf ta g.l s a).block:=by
   cases hd:deep ta s with
   | true=>exact hT _ (hpos.2.2.1 hd)
   | false=>rw[(hpos.2.2.2 hd).1];exact (hm.resolve_left (by simp [hd])).2
  have hmodR:(addrOf ta g.l s a).block∉foot tb p.r x.2 g.r:=by
   have hh:=ZaA ta p.l x.1 g.l s y a h.1 hsp (hm.imp id (fun hm=>by have:=hm.1;simp only[cells] at this;exact this.left)) hr hs
   cases hd:deep ta s with
   | true=>exact Z6 hnd (hh.2.2.1 hd)
   | false=>rw[(hh.2.2.2 hd).1];exact fun hk=>hab (List.mem_append_right _ hk)
  obtain ⟨h1,h2,h3,L,R,h4,h5⟩:=Za9 ta p.l x.1 g.l s y a q z gz z' h.1 hsp (hm.imp id (fun hm=>⟨by have:=hm.1;simp only[cells] at this;exact this.left,hm.2⟩)) hr hs hp
   (List.nodup_append.1 hnd).1 (fun hk=>hab (List.mem_append_left _ hk)) (fun k hk=>hT k (List.mem_append_left _ hk)) hz hst
  refine ⟨?_, ?_, ?_,L,R++foot tb p.r x.2 g.r, ?_, ?_⟩
  ·simp only[Holds,ghSet,Gh.pr_l,Gh.pr_r,Perm.mk_l,Perm.mk_r]
   exact ⟨h1,Holds.agree tb _ _ _ h.2 (fun k hk=>hst.other k (fun e=>hmodR (e▸hk))) (fun i k hk=>⟨hst.other k (fun ee=>hmodT i (ee▸hk)),hk⟩)⟩
  ·intro hd
   simp only[cells,ghSet,Gh.pr_l,Gh.pr_r,h2 hd]
  ·intro hd
   simp only[cells,ghSet,Gh.pr_l,Gh.pr_r];have hm':=(hm.resolve_left (by simp [hd])).1;simp only[cells] at hm';refine (h3 hd).append hsp ?_;rw[Za];have:=hm'.right hsp;rw[Za] at this;have hp4:=ZaA ta p.l x.1 g.l s y a h.1 hsp (.inr hm'.left) hr hs;refine hst.apart (ZP _ _ hsp) this (.inr (.inr ?_));rw[Za,ZaN];have:=(hp4.2.2.2 hd).2.2;omega
  ·simp only[ghAt];rw[h4];simp [List.append_assoc]
  ·simp only[ghSet,Gh.pr_l,Gh.pr_r,Perm.mk_l,Perm.mk_r];rw[h5];simp [List.append_assoc]
 | .prod ta tb,p,x,g, .snd::s,y,a,q,z,gz,r,h,hsp,hm,hr,hs,hp,hnd,hab,hT,hz,hst=>by
  have hpos:=ZaA (.prod ta tb) p x g (.snd::s) y a h hsp (hm.imp id And.left) hr hs;simp only[Holds] at h;simp only[inR] at hr;simp only[sub] at hs;simp only[put,Option.map_eq_some_iff] at hp;obtain ⟨z',hp,rfl⟩:=hp;simp only[foot] at hnd hab hT;simp only[addrOf,deep,foot] at hst hpos hm ⊢;have hmodT:∀e,¬T e (addrOf tb g.r s (a.add ta.sz)).block:=by
   cases hd:deep tb s with
   | true=>exact hT _ (hpos.2.2.1 hd)
   | false=>rw[(hpos.2.2.2 hd).1];exact (hm.resolve_left (by simp [hd])).2
  have hmr:deep tb s=true∨MemAt w (a.add ta.sz) (cells tb x.2 g.r):=hm.imp id (fun hm=>by have:=hm.1;simp only[cells] at this;have:=this.right hsp;rwa [Za] at this)
  have hh:=ZaA tb p.r x.2 g.r s y (a.add ta.sz) h.2 (ZP _ _ hsp) hmr hr hs;have hmodL:(addrOf tb g.r s (a.add ta.sz)).block∉foot ta p.l x.1 g.l:=by
   cases hd:deep tb s with
   | true=>exact not_mem_of_nodup_append' hnd (hh.2.2.1 hd)
   | false=>rw[(hh.2.2.2 hd).1,Zs];exact fun hk=>hab (List.mem_append_left _ hk)
  obtain ⟨h1,h2,h3,L,R,h4,h5⟩:=Za9 tb p.r x.2 g.r s y (a.add ta.sz) q z gz z' h.2 (ZP _ _ hsp) (hmr.elim .inl (fun hm'=>hm.imp id (fun hm=>⟨hm',by rw[Zs];exact hm.2⟩))) hr hs hp
   (List.nodup_append.1 hnd).2.1 (fun hk=>hab (List.mem_append_right _ (by rwa [Zs] at hk))) (fun k hk=>hT k (List.mem_append_right _ hk)) hz hst
  refine ⟨?_, ?_, ?_,foot ta p.l x.1 g.l++L,R, ?_, ?_⟩
  ·simp only[Holds,ghSet,Gh.pr_l,Gh.pr_r,Perm.mk_l,Perm.mk_r]
   exact ⟨Holds.agree ta _ _ _ h.1 (fun k hk=>hst.other k (fun e=>hmodL (e▸hk))) (fun i k hk=>⟨hst.other k (fun ee=>hmodT i (ee▸hk)),hk⟩),h1⟩
  ·intro hd
   simp only[cells,ghSet,Gh.pr_l,Gh.pr_r,h2 hd]
  ·intro hd
   simp only[cells,ghSet,Gh.pr_l,Gh.pr_r];have hm':=(hm.resolve_left (by simp [hd])).1;simp only[cells] at hm';refine MemAt.append hsp (hst.apart hsp hm'.left (.inr (.inl ?_))) ?_
   ·rw[Za]
    have:=(hh.2.2.2 hd).2.1;rw[ZaN] at this;omega
   ·rw[Za];exact h3 hd
  ·simp only[ghAt];rw[h4];simp [List.append_assoc]
  ·simp only[ghSet,Gh.pr_l,Gh.pr_r,Perm.mk_l,Perm.mk_r];rw[h5];simp [List.append_assoc]
 | .arr n t,p,xs,g, .idx i::s,y,a,q,z,gz,r,h,hsp,hm,hr,hs,hp,hnd,hab,hT,hz,hst=>by
  have hpos:=ZaA (.arr n t) p xs g (.idx i::s) y a h hsp (hm.imp id And.left) hr hs;simp only[Holds] at h;simp only[inR] at hr;simp only[sub] at hs;simp only[put,Option.bind_eq_some_iff] at hp;obtain ⟨z',hp,hp2⟩:=hp;split at hp2
  case isFalse=>cases hp2
  rename_i hro;cases hp2;simp only[addrOf,deep,foot] at hst hpos hm ⊢
  have hmi:deep t s=true∨(MemAt w (a.add (i*t.sz)) (cells t (xs.getD i t.dflt) (g.at i))∧∀e,¬T e (a.add (i*t.sz)).block):=
   hm.imp id (fun hm=>⟨by have:=hm.1;simp only[cells] at this;exact this.elem hsp (fun _ _=>Za _ _ _) i hr.1.1,by rw[Zs];exact hm.2⟩)
  have hdd:deep t s=false:=by
   cases hd:deep t s with
   | false=>rfl
   | true=>exact absurd (hpos.2.2.1 hd) (by simp)
  have hmm:=hm.resolve_left (by simp [hdd]);have hmodT:∀e,¬T e (addrOf t (g.at i) s (a.add (i*t.sz))).block:=by rw[(hpos.2.2.2 hdd).1];exact hmm.2
  obtain ⟨h1,h2,h3,L,R,h4,h5⟩:=Za9 t .ro (xs.getD i t.dflt) (g.at i) s y (a.add (i*t.sz)) q z gz z' (h.2 i hr.1.1) (ZP _ _ hsp) hmi hr.2 hs hp (by simp [foot_ro]) (by simp [foot_ro]) (by simp [foot_ro]) hz hst;rw[foot_ro] at h4;rw[hro,foot_ro] at h5;have hhi:=ZaA t .ro (xs.getD i t.dflt) (g.at i) s y (a.add (i*t.sz)) (h.2 i hr.1.1) (ZP _ _ hsp) (hmi.imp id And.left) hr.2 hs;have hlen:i<xs.length:=hr.1.2;have hgh:∀j,j<n→j≠i→(ghSet (.arr n t) g (.idx i::s) gz).at j=g.at j:=fun j _ hne=>by simp [ghSet,Gh.at,hne]
  have hghi:(ghSet (.arr n t) g (.idx i::s) gz).at i=ghSet t (g.at i) s gz:=by simp [ghSet,Gh.at]
  refine ⟨?_,by simp [hdd],fun _=> ?_,[],[], ?_, ?_⟩
  ·simp only[Holds]
   refine ⟨by rw[List.length_set];exact h.1,fun j hj=> ?_⟩
   rw[ZH _ _ _ _ _ hlen];by_cases e:j=i
   ·subst e;rw[if_pos rfl,hghi];rw[←hro];exact h1
   ·rw[if_neg e,hgh j hj e]
    exact Holds.agree t _ _ _ (h.2 j hj) (by simp [foot_ro]) (fun i k hk=>⟨hst.other k (fun ee=>hmodT i (ee▸hk)),hk⟩)
  ·simp only[cells]
   have hall:∀j,j<n→MemAt w' (a.add (j*t.sz)) (cells t ((xs.set i z'.2).getD j t.dflt) ((ghSet (.arr n t) g (.idx i::s) gz).at j)):=fun j hj=>by
    rw[ZH _ _ _ _ _ hlen];by_cases e:j=i
    ·subst e;rw[if_pos rfl,hghi];exact h3 hdd
    ·rw[if_neg e,hgh j hj e]
     have hmj:=hmm.1;simp only[cells] at hmj;refine hst.apart (ZP _ _ hsp) (hmj.elem hsp (fun _ _=>Za _ _ _) j hj) (.inr ?_);rw[Za,Za,ZaN];have b1:=(hhi.2.2.2 hdd).2.1;have b2:=(hhi.2.2.2 hdd).2.2;rw[ZaN] at b1 b2;rcases Nat.lt_or_gt_of_ne e with e | e
     ·have:=Nat.mul_le_mul_right t.sz (show j+1≤i by omega)
      rw[Nat.add_mul] at this
      left;omega
     ·have:=Nat.mul_le_mul_right t.sz (show i+1≤j by omega)
      rw[Nat.add_mul] at this
      right;omega
   exact memAt_catN hsp (fun _ _=>Za _ _ _) hall
  ·simp only[ghAt]
   simp at h4;simp [h4]
  ·simp at h5;simp [h5]
 | .slice e t, .own o,xs,g, .idx i::s,y,a,q,z,gz,r,h,hsp,hm,hr,hs,hp,hnd,hab,hT,hz,hst=>by
  simp only[Holds] at h;simp only[inR] at hr;simp only[sub] at hs;simp only[put,Option.bind_eq_some_iff] at hp;obtain ⟨z',hp,hp2⟩:=hp;split at hp2
  case isFalse=>cases hp2
  rename_i hro;cases hp2;simp only[foot] at hnd hab hT;simp only[addrOf,deep,foot] at hst ⊢;obtain ⟨k,cap,cur,hv,hb,hbase,hh,hc,hcm,hcs,hx⟩:=ZS h.1 (by omega);rw[hbase] at hst;rw[hb] at hnd hT;simp only[Option.toList_some,List.cons_append,List.nil_append,List.nodup_cons,List.mem_cons,forall_eq_or_imp] at hnd hT;have hki:k∉foot t o (xs.getD i t.dflt) (g.at i):=fun hk=>hnd.1 (Zw.2 ⟨i,hr.1,hk⟩)
  have hmi:MemAt w ((⟨k,0,none⟩:Addr).add (i*t.sz)) (cells t (xs.getD i t.dflt) (g.at i)):=hx.elem rfl (fun _ _=>Za _ _ _) i hr.1;have hhi:=ZaA t o (xs.getD i t.dflt) (g.at i) s y ((⟨k,0,none⟩:Addr).add (i*t.sz)) (h.2 i hr.1) (ZP _ _ rfl) (.inr hmi) hr.2 hs;have hmod:(addrOf t (g.at i) s ((⟨k,0,none⟩:Addr).add (i*t.sz))).block=k∨(addrOf t (g.at i) s ((⟨k,0,none⟩:Addr).add (i*t.sz))).block∈foot t o (xs.getD i t.dflt) (g.at i):=by
   cases hd:deep t s with
   | true=>exact .inr (hhi.2.2.1 hd)
   | false=>left;rw[(hhi.2.2.2 hd).1,Zs]
  have hmodT:∀e,¬T e (addrOf t (g.at i) s ((⟨k,0,none⟩:Addr).add (i*t.sz))).block:=by
   rcases hmod with e | e
   ·rw[e];exact hT.1
   ·exact hT.2 _ (Zw.2 ⟨i,hr.1,e⟩)
  have hmodj:∀j,j<xs.length→j≠i→(addrOf t (g.at i) s ((⟨k,0,none⟩:Addr).add (i*t.sz))).block∉foot t o (xs.getD j t.dflt) (g.at j):=fun j hj hne=>by
   rcases hmod with e | e
   ·rw[e];exact fun hk=>hnd.1 (Zw.2 ⟨j,hj,hk⟩)
   ·exact Zbt hnd.2 i j hr.1 hj (fun h=>hne h.symm) _ e
  obtain ⟨h1,h2,h3,L,R,h4,h5⟩:=Za9 t o (xs.getD i t.dflt) (g.at i) s y ((⟨k,0,none⟩:Addr).add (i*t.sz)) q z gz z' (h.2 i hr.1) (ZP _ _ rfl) (.inr ⟨hmi,by rw[Zs];exact hT.1⟩) hr.2 hs hp
   (ZaU hnd.2 i hr.1) (by rw[Zs];exact hki) (fun k' hk'=>hT.2 _ (Zw.2 ⟨i,hr.1,hk'⟩)) hz hst
  have hgh:∀j,j<xs.length→j≠i→(ghSet (.slice e t) g (.idx i::s) gz).at j=g.at j:=fun j _ hne=>by simp [ghSet,Gh.at,hne]
  have hghi:(ghSet (.slice e t) g (.idx i::s) gz).at i=ghSet t (g.at i) s gz:=by simp [ghSet,Gh.at]
  have hhead:(ghSet (.slice e t) g (.idx i::s) gz).head=g.head:=by simp [ghSet,Gh.head]
  have hall:∀j,j<xs.length→MemAt w' ((⟨k,0,none⟩:Addr).add (j*t.sz)) (cells t ((xs.set i z'.2).getD j t.dflt) ((ghSet (.slice e t) g (.idx i::s) gz).at j)):=fun j hj=>by
   rw[ZH _ _ _ _ _ hr.1];by_cases ej:j=i
   ·subst ej;rw[if_pos rfl,hghi]
    cases hd:deep t s with
    | false=>exact h3 hd
    | true=>
     rw[h2 hd];refine hmi.agree fun _=>hst.other _ ?_
     rw[Zs];intro ek;have hk:=hhi.2.2.1 hd;rw[←ek] at hk;exact hki hk
   ·rw[if_neg ej,hgh j hj ej]
    refine hst.apart (ZP _ _ rfl) (hx.elem rfl (fun _ _=>Za _ _ _) j hj) ?_;rw[Za,Za,ZaN,Zs];cases hd:deep t s with
    | true=>
     left
     intro ek;have hk:=hhi.2.2.1 hd;rw[←ek] at hk;exact hki hk
    | false=>
     right
     have b1:=(hhi.2.2.2 hd).2.1;have b2:=(hhi.2.2.2 hd).2.2;rw[ZaN] at b1 b2;rcases Nat.lt_or_gt_of_ne ej with e | e
     ·have:=Nat.mul_le_mul_right t.sz (show j+1≤i by omega)
      rw[Nat.add_mul] at this
      left;omega
     ·have:=Nat.mul_le_mul_right t.sz (show i+1≤j by omega)
      rw[Nat.add_mul] at this
      right;omega
  obtain ⟨fr,hfr,hh⟩:=hh;have hblock:∃cur',w'.heap[k]? =some (.cells cur' e fr)∧cur'.size=cap*t.sz:=by
   by_cases ek:k=(addrOf t (g.at i) s ((⟨k,0,none⟩:Addr).add (i*t.sz))).block
   ·obtain ⟨c1,c2,e1,f1,e2,e3,e4,_⟩:=hst.here
    rw[←ek,hh] at e2;simp only[Option.some.injEq,Obj.cells.injEq] at e2;obtain ⟨rfl,rfl,rfl⟩:=e2;rw[←ek] at e3;exact ⟨c2,e3,e4.trans hcs⟩
   ·exact ⟨cur,(hst.other k ek).trans hh,hcs⟩
  obtain ⟨cur',hb',hs'⟩:=hblock;refine ⟨?_,fun _=>by simp only[cells,hhead],by simp, ?_⟩
  ·simp only[Holds]
   rw[hhead,hv];simp only[List.length_set];refine ⟨ZdP (ZR fun _ _=>Za _ _ _) (by rw[hs',←hcs];exact hfr) hb' hc hcm hs' (memAt_catN rfl (fun _ _=>Za _ _ _) hall),fun j hj=> ?_⟩
   rw[ZH _ _ _ _ _ hr.1];by_cases ej:j=i
   ·subst ej;rw[if_pos rfl,hghi];rw[←hro];exact h1
   ·rw[if_neg ej,hgh j hj ej]
    exact Holds.agree t _ _ _ (h.2 j hj) (fun k' hk'=>hst.other k' (fun e=>hmodj j hj ej (e▸hk'))) (fun i k' hk'=>⟨hst.other k' (fun ee=>hmodT i (ee▸hk')),hk'⟩)
  ·obtain ⟨A,B,hAB⟩:=Zdw hr.1 (fun j=>foot t o (xs.getD j t.dflt) (g.at j))
   refine ⟨k::(A++L),R++B, ?_, ?_⟩
   ·rw[hb,hAB _ (fun _ _ _=>rfl),h4]
    simp [ghAt,List.append_assoc]
   ·rw[hhead,hb,List.length_set,hAB (fun j=>foot t o ((xs.set i z'.2).getD j t.dflt) ((ghSet (.slice e t) g (.idx i::s) gz).at j)) (fun j hj hne=>by
     rw[ZH _ _ _ _ _ hr.1,if_neg hne,hgh j hj hne])]
    rw[ZH _ _ _ _ _ hr.1,if_pos rfl,hghi];rw[show foot t o z'.2 (ghSet t (g.at i) s gz)=foot t z'.1 z'.2 (ghSet t (g.at i) s gz) by rw[hro],h5];simp [List.append_assoc]
 | .int _,_,_,_,_::_,_,_,_,_,_,_,_,_,_,_,hs,_,_,_,_,_,_ | .bool,_,_,_,_::_,_,_,_,_,_,_,_,_,_,_,hs,_,_,_,_,_,_=>by simp [sub] at hs
 | .str,_,_,_,_::_,_,_,_,_,_,_,_,_,_,_,hs,_,_,_,_,_,_ | .err,_,_,_,_::_,_,_,_,_,_,_,_,_,_,_,hs,_,_,_,_,_,_=>by simp [sub] at hs
 | .prod _ _,_,_,_, .idx _::_,_,_,_,_,_,_,_,_,_,_,hs,_,_,_,_,_,_ | .arr _ _,_,_,_, .fst::_,_,_,_,_,_,_,_,_,_,_,hs,_,_,_,_,_,_ | .arr _ _,_,_,_, .snd::_,_,_,_,_,_,_,_,_,_,_,hs,_,_,_,_,_,_=>by simp [sub] at hs
 | .slice _ _, .own _,_,_, .fst::_,_,_,_,_,_,_,_,_,_,_,hs,_,_,_,_,_,_ | .slice _ _, .own _,_,_, .snd::_,_,_,_,_,_,_,_,_,_,_,hs,_,_,_,_,_,_ | .slice _ _, .hole _ _,_,_, .fst::_,_,_,_,_,_,_,_,_,_,_,hs,_,_,_,_,_,_ | .slice _ _, .hole _ _,_,_, .snd::_,_,_,_,_,_,_,_,_,_,_,hs,_,_,_,_,_,_=>by simp [sub] at hs
 | .slice _ _, .ro,_,_,_::_,_,_,_,_,_,_,_,_,_,_,hs,_,_,_,_,_,_ | .slice _ _, .dead,_,_,_::_,_,_,_,_,_,_,_,_,_,_,hs,_,_,_,_,_,_ | .slice _ _, .pr _ _,_,_,_::_,_,_,_,_,_,_,_,_,_,_,hs,_,_,_,_,_,_=>by simp [sub] at hs
where
 memAt_catN {w:World} {a:Addr} {f:Nat→List Value} {s:Nat} (hs:a.spot=none):∀ {n:Nat},(∀i,i<n→(f i).length=s)→(∀i,i<n→MemAt w (a.add (i*s)) (f i))→MemAt w a (catN f n)
 | 0,_,_=>fun j u hj=>by simp [catN] at hj
 | n+1,hl,h=>by
  simp only[catN];refine (memAt_catN hs (fun i hi=>hl i (by omega)) (fun i hi=>h i (by omega))).append hs ?_
  rw[ZR (fun i hi=>hl i (by omega))];exact h n (by omega)
theorem memAt_catN {w:World} {a:Addr} {f:Nat→List Value} {s:Nat} (hs:a.spot=none) {n:Nat} (hl:∀i,i<n→(f i).length=s) (h:∀i,i<n→MemAt w (a.add (i*s)) (f i)):MemAt w a (catN f n):=Za9.memAt_catN hs hl h
end Go.Rx
namespace Go.Rx
noncomputable section
open Go.RowKit
def iadd (k:IntKind) (x y:Int):Int:=k.wrap (x+y)
def isub (k:IntKind) (x y:Int):Int:=k.wrap (x - y)
def imul (k:IntKind) (x y:Int):Int:=k.wrap (x*y)
def iquo (k:IntKind) (x y:Int):Int:=k.wrap (x.tdiv y)
def irem (x y:Int):Int:=x.tmod y
def iand (k:IntKind) (x y:Int):Int:=k.wrap ((BitVec.ofInt k.bits x &&& BitVec.ofInt k.bits y).toNat:Int)
def ior (k:IntKind) (x y:Int):Int:=k.wrap ((BitVec.ofInt k.bits x ||| BitVec.ofInt k.bits y).toNat:Int)
def ixor (k:IntKind) (x y:Int):Int:=k.wrap ((BitVec.ofInt k.bits x ^^^ BitVec.ofInt k.bits y).toNat:Int)
def iandn (k:IntKind) (x y:Int):Int:=k.wrap ((BitVec.ofInt k.bits x &&& ~~~ BitVec.ofInt k.bits y).toNat:Int)
def ishl (k:IntKind) (x y:Int):Int:=k.wrap (x*2 ^ (min y.toNat k.bits))
def ishr (k:IntKind) (x y:Int):Int:=x.fdiv (2 ^ (min y.toNat k.bits))
def inot (k:IntKind) (x:Int):Int:=ixor k (if k.signed then -1 else k.max) x
def ilt (x y:Int):Bool:=decide (x<y)
def ile (x y:Int):Bool:=decide (x≤y)
def ieq (x y:Int):Bool:=decide (x=y)
def ine (x y:Int):Bool:= !decide (x=y)
def imax (x y:Int):Int:=if y>x then y else x
def imin (x y:Int):Int:=if y<x then y else x
def icv (k:IntKind) (x:Int):Int:=k.wrap x
def seq (x y:Xo):Bool:=x.toList==y.toList
def slt (x y:Xo):Bool:=Op.bytesLess x.toList y.toList
def scat (x y:Xo):Xo:=x++y
def beq (x y:Bool):Bool:=x==y
def bstr (xs:List Int):Xo:=⟨(xs.map fun n=>UInt8.ofNat n.toNat).toArray⟩
def sbytes (s:Xo):List Int:=s.data.toList.map fun b=>(b.toNat:Int)
def slen (x:Xo):Int:=(x.size:Int)
def sbyte (x:Xo) (i:Int):Int:=((x[i.toNat]?.getD 0).toNat:Int)
def scut (x:Xo) (l h:Int):Xo:=x.extract l.toNat h.toNat
def sfit (x y:Xo):Bool:=decide (x.size+y.size≤9223372036854775807)
def len {α:Type} (xs:List α):Int:=(xs.length:Int)
def cut {α:Type} (xs:List α) (l h:Int):List α:=(xs.take h.toNat).drop l.toNat
def inB (i:Int) (n:Nat):Bool:=decide (0≤i) && decide (i<(n:Int))
def cutB (l h:Int) (n:Nat):Bool:=decide (0≤l) && (decide (l≤h) && decide (h≤(n:Int)))
def fitB (n bytes:Nat):Bool:=decide (n≤140737488355328) && decide (n*bytes≤140737488355328)
def mkB (n:Int) (bytes:Nat):Bool:=decide (0≤n) && (decide (n≤140737488355328) && decide (n.toNat*bytes≤140737488355328))
def mkZ (m:Int) (n bytes:Nat):Bool:=decide (0≤m) && fitB (n+m.toNat) bytes
def wr {α:Type} (xs:List α) (i:Nat) (v:α):List α:=xs.set i v
def over {α:Type} (xs:List α) (at_:Nat) (ys:List α):List α:=xs.take at_++(ys++xs.drop (at_+ys.length))
inductive Reg where
 | undef
 | no
 | val (t:Ty) (x:t.den)
 | vw (b:Nat) (s:Path)
 | sl (b:Nat) (s:Path) (lo n:Nat)
 | ptr (b:Nat) (s:Path)
 | rp (t:Ty) (x:t.den)
 | fn (f:Nat)
 | nilS
 | tup (b n:Nat)
 deriving Inhabited
structure Blk where
 var:Bool
 pin:Bool
 p:Perm
 ty:Ty
 x:ty.den
structure St where
 regs:List Reg
 blks:List (Option Blk)
def nth {α:Type} (l:List α) (n:Nat) (d:α):α:=List.rec (motive:=fun _=>Nat→α) (fun _=>d) (fun a _ ih n=>Nat.rec a (fun m _=>ih m) n) l n
def setN {α:Type} (l:List α) (n:Nat) (v:α):List α:=List.rec (motive:=fun _=>Nat→List α) (fun _=>[]) (fun a l ih n=>Nat.rec (v::l) (fun m _=>a::ih m) n) l n
@[simp] theorem nth_e {α:Type} (n:Nat) (d:α):nth [] n d=d:=rfl
@[simp] theorem nth_0 {α:Type} (a:α) (l:List α) (d:α):nth (a::l) 0 d=a:=rfl
@[simp] theorem nth_s {α:Type} (a:α) (l:List α) (n:Nat) (d:α):nth (a::l) (n+1) d=nth l n d:=rfl
@[simp] theorem setN_e {α:Type} (n:Nat) (v:α):setN [] n v=[]:=rfl
@[simp] theorem setN_0 {α:Type} (a:α) (l:List α) (v:α):setN (a::l) 0 v=v::l:=rfl
@[simp] theorem setN_s {α:Type} (a:α) (l:List α) (n:Nat) (v:α):setN (a::l) (n+1) v=a::setN l n v:=rfl
def St.reg (st:St) (t:Nat):Reg:=nth st.regs t .undef
def St.blk (st:St) (b:Nat):Option Blk:=nth st.blks b none
def constReg:Value→Reg
 | .int k n=> .val (.int k) n
 | .bool b=> .val .bool b
 | .string s=> .val .str s
 | .slice none 0 0=> .nilS
 | .nilIface=> .val .err true
 | _=> .undef
def St.opd (st:St):Operand→Reg
 | .tmp t=>st.reg t
 | .const v=>constReg v
 | .func f=> .fn f
 | .global _=> .undef
inductive Giv where
 | none
 | move (t:Ty) (p:Perm)
 | mut (t:Ty) (p q:Perm)
 | ptr (t:Ty) (p q:Perm)
abbrev Giv.den:Giv→Type
 | .none=>Unit
 | .move t _=>t.den
 | .mut t _ _=>t.den
 | .ptr t _ _=>t.den
abbrev Giv.out:Giv→Type
 | .none=>Unit
 | .move _ _=>Unit
 | .mut t _ _=>t.den
 | .ptr t _ _=>t.den
abbrev ADen:List Ty→Type
 | []=>Unit
 | t::l=>t.den×ADen l
structure Spec where
 giv:Giv
 args:List Ty
 res:Ty
 n:Nat
 p:Perm
 f:giv.den→ADen args→Option (res.den×giv.out)
structure TI where
 ty:Ty
 nf:Nat
 bytes:Nat
structure Ctx where
 tab:List (Nat×TI)
 fn:Nat→Option Spec
 fro:Nat→Bool
def lookT:List (Nat×TI)→Nat→Option TI
 | [],_=>none
 | (a,x)::l,t=>if a=t then some x else lookT l t
def Ctx.ty (C:Ctx) (t:TypeId):Option Ty:=match lookT C.tab t with | some x=>some x.ty | none=>none
def Ctx.nf (C:Ctx) (t:TypeId):Nat:=match lookT C.tab t with | some x=>x.nf | none=>0
def Ctx.bytes (C:Ctx) (t:TypeId):Nat:=match lookT C.tab t with | some x=>x.bytes | none=>0
inductive Kill where
 | all (b:Nat)
 | at (b:Nat) (t:Ty) (s:Path)
 | inner (b:Nat) (t:Ty) (s:Path)
 | gone (b:Nat) (t:Ty) (s:Path)
 | moved (b:Nat)
structure Eff where
 r:Reg
 upd:List (Nat×Option Blk):=[]
 kill:List Kill:=[]
def ext:Path→Path→Bool
 | [],_=>true
 | .fst::s, .fst::q=>ext s q
 | .snd::s, .snd::q=>ext s q
 | .idx _::s, .idx _::q=>ext s q
 | _,_=>false
def hasIdx:Path→Bool
 | []=>false
 | .idx _::_=>true
 | _::s=>hasIdx s
def extIn:Path→Path→Bool
 | [],q=>hasIdx q
 | .fst::s, .fst::q=>extIn s q
 | .snd::s, .snd::q=>extIn s q
 | .idx _::s, .idx _::q=>extIn s q
 | _,_=>false
def tyAt:Ty→Path→Option Ty
 | t,[]=>some t
 | .prod a _, .fst::s=>tyAt a s
 | .prod _ b, .snd::s=>tyAt b s
 | .arr _ t, .idx _::s=>tyAt t s
 | .slice _ t, .idx _::s=>tyAt t s
 | _,_=>none
def isSlice:Option Ty→Bool | some (.slice _ _)=>true | _=>false
def killR:Kill→Reg→Reg
 | .all k, .vw b q=>if b=k then .undef else .vw b q
 | .all k, .sl b q l n=>if b=k then .undef else .sl b q l n
 | .all k, .ptr b q=>if b=k then .undef else .ptr b q
 | .all k, .tup b n=>if b=k then .undef else .tup b n
 | .at k t s, .vw b q=>if b=k then (if ext s q || (ext q s && !isSlice (tyAt t q)) then .undef else .vw b q) else .vw b q
 | .at k _ s, .sl b q l n=>if b=k then (if ext s q then .undef else .sl b q l n) else .sl b q l n
 | .at k _ s, .ptr b q=>if b=k then (if extIn s q then .undef else .ptr b q) else .ptr b q
 | .at k _ _, .tup b n=>if b=k then .undef else .tup b n
 | .inner k _ s, .vw b q=>if b=k then (if extIn s q then .undef else .vw b q) else .vw b q
 | .inner k _ _, .sl b q l n=>if b=k then .undef else .sl b q l n
 | .inner k _ _, .ptr b q=>if b=k then (if hasIdx q then .undef else .ptr b q) else .ptr b q
 | .inner k _ _, .tup b n=>if b=k then .undef else .tup b n
 | .gone k t s, .vw b q=>if b=k then (if ext s q || (ext q s && !isSlice (tyAt t q)) then .undef else .vw b q) else .vw b q
 | .gone k _ s, .sl b q l n=>if b=k then (if ext s q then .undef else .sl b q l n) else .sl b q l n
 | .gone k _ s, .ptr b q=>if b=k then (if extIn s q then .undef else .ptr b q) else .ptr b q
 | .moved k, .ptr b q=>if b=k then .undef else .ptr b q
 | .moved k, .tup b n=>if b=k then .undef else .tup b n
 | _,r=>r
def killL:List Kill→Reg→Reg
 | [],r=>r
 | k::l,r=>killL l (killR k r)
def mapR (f:Reg→Reg) (l:List Reg):List Reg:=List.rec [] (fun r _ ih=>f r::ih) l
@[simp] theorem mapR_e (f:Reg→Reg):mapR f []=[]:=rfl
@[simp] theorem mapR_c (f:Reg→Reg) (r:Reg) (l:List Reg):mapR f (r::l)=f r::mapR f l:=rfl
def killAll:List Kill→List Reg→List Reg
 | [],rs=>rs
 | k::l,rs=>killAll l (mapR (killR k) rs)
def updAll:List (Nat×Option Blk)→List (Option Blk)→List (Option Blk)
 | [],bs=>bs
 | (b,o)::l,bs=>updAll l (setN bs b o)
def Eff.apply (e:Eff) (dst:Option Nat) (st:St):St:=
 ⟨match dst with | some d=>setN (killAll e.kill st.regs) d e.r | none=>killAll e.kill st.regs,updAll e.upd st.blks⟩
inductive Plan:Type 1 where
 | go (e:Eff)
 | chk (pre:Bool) (e:Eff)
 | call (ρ:Type) (x:Option ρ) (mk:ρ→Option Eff)
def Ty.zp:Ty→Perm
 | .slice _ t=> .own t.zp
 | .prod a b=>Perm.mk a.zp b.zp
 | _=> .ro
structure Cont where
 ty:Ty
 p:Perm
 x:ty.den
 src:Option (Nat×Path)
 bor:Option Nat
def lookU:List (Nat×Option Blk)→Nat→Option (Option Blk)
 | [],_=>none
 | (a,x)::l,b=>match lookU l b with | some y=>some y | none=>if a=b then some x else none
def St.blkU (st:St) (U:List (Nat×Option Blk)) (b:Nat):Option Blk:=match lookU U b with | some x=>x | none=>st.blk b
def Reg.cont (st:St) (U:List (Nat×Option Blk)):Reg→Option Cont
 | .val t x=>some ⟨t, .ro,x,none,none⟩
 | .vw b s=>match st.blkU U b with
  | some k=>match sub k.ty k.p k.x s with
   | some y=>some ⟨y.ty,y.p,y.x,some (b,s),some b⟩
   | none=>none
  | none=>none
 | .sl b s lo n=>match st.blkU U b with
  | some k=>match sub k.ty k.p k.x s with
   | some ⟨.slice e t, .own q,xs⟩=>some ⟨.slice e t, .own q,(xs.drop lo).take n,none,some b⟩
   | _=>none
  | none=>none
 | _=>none
def contOf (st:St) (U:List (Nat×Option Blk)) (t:Ty):Reg→Option Cont
 | .nilS=>match t with
  | .slice e u=>some ⟨.slice e u, .own u.zp,([]:List u.den),none,none⟩
  | _=>none
 | r=>r.cont st U
def gone:Ty→Perm→Perm
 | .slice _ _, .own _=> .dead
 | .slice _ _, .hole _ _=> .dead
 | .prod a b,p=>Perm.mk (gone a p.l) (gone b p.r)
 | _,p=>p
def Perm.noDead:Perm→Bool
 | .dead=>false
 | .own q=>q.noDead
 | .hole _ _=>false
 | .pr a b=>a.noDead && b.noDead
 | .ro=>true
def takeOf (st:St) (U:List (Nat×Option Blk)) (r:Reg) (c:Cont):Option (List (Nat×Option Blk)×List Kill):=
 match r with
 | .nilS=>some ([],[])
 | _=>if c.p.plain then some ([],[]) else
  match c.src with
  | none=>none
  | some (b,s)=>match st.blkU U b with
   | none=>none
   | some k=>
    if k.pin then none else
    if k.var=false∧s=[] then some ([(b,none)],[.all b])
    else match put k.ty k.p k.x s c.ty (gone c.ty c.p) c.x with
     | some r=>some ([(b,some ⟨k.var,k.pin,r.1,k.ty,r.2⟩)],[.gone b k.ty s])
     | none=>none
def hold (d:Nat) (t:Ty) (p:Perm) (x:t.den) (U:List (Nat×Option Blk)) (K:List Kill):Eff:=
 if p.plain then { r:= .val t x,upd:=U,kill:=K } else { r:= .vw d [],upd:=U++[(d,some ⟨false,false,p,t,x⟩)],kill:=K++[.all d] }
def fieldPath:(n f:Nat)→Path
 | 0,_=>[]
 | 1,_=>[]
 | _+2,0=>[.fst]
 | n+2,f+1=> .snd::fieldPath (n+1) f
def binReg (tb:Bool) (op:BinOp):Reg→Reg→Option (Option Bool×Reg)
 | .val (.int k) x, .val (.int k') y=>
  if op= .shl then some (some (ile 0 y), .val (.int k) (ishl k x y)) else
  if op= .shr then some (some (ile 0 y), .val (.int k) (ishr k x y)) else
  if k=k' then
   match op with
   | .add=>some (none, .val (.int k) (iadd k x y))
   | .sub=>some (none, .val (.int k) (isub k x y))
   | .mul=>some (none, .val (.int k) (imul k x y))
   | .quo=>some (some (ine y 0), .val (.int k) (iquo k x y))
   | .rem=>some (some (ine y 0), .val (.int k) (irem x y))
   | .and=>some (none, .val (.int k) (iand k x y))
   | .or=>some (none, .val (.int k) (ior k x y))
   | .xor=>some (none, .val (.int k) (ixor k x y))
   | .andNot=>some (none, .val (.int k) (iandn k x y))
   | .eql=>some (none, .val .bool (ieq x y))
   | .neq=>some (none, .val .bool (ine x y))
   | .lss=>some (none, .val .bool (ilt x y))
   | .leq=>some (none, .val .bool (ile x y))
   | .gtr=>some (none, .val .bool (ilt y x))
   | .geq=>some (none, .val .bool (ile y x))
   | _=>none
  else none
 | .val .bool x, .val .bool y=>if tb then match op with
   | .eql=>some (none, .val .bool (beq x y))
   | .neq=>some (none, .val .bool (!beq x y))
   | _=>none
  else none
 | .val .str x, .val .str y=>match op with
  | .add=>some (some (sfit x y), .val .str (scat x y))
  | .eql=>some (none, .val .bool (seq x y))
  | .neq=>some (none, .val .bool (!seq x y))
  | .lss=>some (none, .val .bool (slt x y))
  | .leq=>some (none, .val .bool (slt x y || seq x y))
  | .gtr=>some (none, .val .bool (!(slt x y || seq x y)))
  | .geq=>some (none, .val .bool (!slt x y))
  | _=>none
 | _,_=>none
def scalB:Ty→Bool
 | .int _ | .bool | .str=>true
 | _=>false
def cmpN:Nat→Ty→Bool
 | 1,t=>scalB t
 | n+2, .prod a b=>scalB a && cmpN (n+1) b
 | _,_=>false
def same1:(t:Ty)→t.den→t.den→Bool
 | .int _,x,y=>ieq x y
 | .bool,x,y=>beq x y
 | .str,x,y=>seq x y
 | _,_,_=>false
def sameN:Nat→(t:Ty)→t.den→t.den→Bool
 | 1,t,x,y=>same1 t x y
 | n+2, .prod a b,x,y=>same1 a x.1 y.1 && sameN (n+1) b x.2 y.2
 | _,_,_,_=>false
def unReg (op:UnOp):Reg→Option Reg
 | .val (.int k) x=>match op with
  | .neg=>some (.val (.int k) (isub k 0 x))
  | .xor=>some (.val (.int k) (inot k x))
  | _=>none
 | .val .bool x=>match op with
  | .not=>some (.val .bool (!x))
  | _=>none
 | _=>none
def convReg (dst:Ty):Reg→Option Reg
 | .val (.int _) x=>match dst with
  | .int k=>some (.val (.int k) (icv k x))
  | _=>none
 | .val .str x=>match dst with
  | .str=>some (.val .str x)
  | _=>none
 | _=>none
end
end Go.Rx
namespace Go.Rx
noncomputable section
open Go.RowKit
def contAs (st:St) (U:List (Nat×Option Blk)) (t:Ty) (r:Reg):Option (Perm×t.den):=
 match contOf st U t r with
 | some c=>if h:c.ty=t then some (c.p,castTo h c.x) else none
 | none=>none
def takeAs (st:St) (U:List (Nat×Option Blk)) (t:Ty) (r:Reg):Option (List (Nat×Option Blk)×List Kill):=
 match contOf st U t r with
 | some c=>takeOf st U r c
 | none=>none
def fill (st:St) (nf:Nat):List (Nat×Reg)→(t:Ty)→Perm→t.den→List (Nat×Option Blk)→List Kill→Option (Perm×t.den×List (Nat×Option Blk)×List Kill)
 | [],_,p,x,U,K=>some (p,x,U,K)
 | (i,r)::rest,t,p,x,U,K=>
  if i<nf then
  match sub t p x (fieldPath nf i) with
  | none=>none
  | some y=>match contAs st U y.ty (killL K r),takeAs st U y.ty (killL K r) with
   | some c,some u=>match put t p x (fieldPath nf i) y.ty c.1 c.2 with
    | some z=>fill st nf rest t z.1 z.2 (U++u.1) (K++u.2)
    | none=>none
   | _,_=>none
  else none
def flatRow (st:St) (t:Ty):Nat→List (Nat×Reg)→Option (List t.den)
 | _,[]=>some []
 | n,(i,r)::rest=>
  if i=n then
   match contAs st [] t r with
   | some c=>match flatRow st t (n+1) rest with
    | some z=>some (c.2::z)
    | none=>none
   | none=>none
  else none
def valRow (t:Ty):Nat→List (Nat×Reg)→Option (List t.den)
 | _,[]=>some []
 | n,(i, .val u x)::rest=>if i=n then (if h:u=t then (match valRow t (n+1) rest with
   | some z=>some (castTo h x::z)
   | none=>none) else none) else none
 | _,_=>none
def flatArr (st:St) (t:Ty) (n:Nat):List (Nat×Reg)→List t.den→Option (List t.den)
 | [],xs=>some xs
 | (i,r)::rest,xs=>match contAs st [] t r with
  | some c=>if i<n then flatArr st t n rest (xs.set i c.2) else none
  | none=>none
def partsOf (st:St) (ps:Array (Nat×Operand)):List (Nat×Reg):=go ps.toList
where go:List (Nat×Operand)→List (Nat×Reg)
 | []=>[]
 | (i,x)::l=>(i,st.opd x)::go l
def argOf (st:St) (t:Ty) (r:Reg):Option t.den:=
 match contAs st [] t r with
 | some c=>if c.1.noDead then some c.2 else none
 | none=>none
def argsOf (st:St):(l:List Ty)→List Reg→Option (ADen l)
 | [],[]=>some ()
 | t::l,r::rs=>match argOf st t r with
  | some x=>match argsOf st l rs with
   | some xs=>some (x,xs)
   | none=>none
  | none=>none
 | _,_=>none
def convStr (dst:Option Nat) (us u:Ty) (st:St) (r:Reg):Option Plan:=
 match us,u with
 | .str, .slice e (.int .u8)=>match dst,r with
  | some d, .val .str s=>some (.chk (fitB s.size 1) { r:= .vw d [],upd:=[(d,some ⟨false,false, .own (Ty.zp (.int .u8)), .slice e (.int .u8),(sbytes s:List Int)⟩)],kill:=[.all d] })
  | _,_=>none
 | .slice e (.int .u8), .str=>match argOf st (.slice e (.int .u8)) r with
  | some xs=>some (.go { r:= .val .str (bstr xs) })
  | none=>none
 | _,_=>none
def lent:List Reg→List Nat
 | .vw b _::rs=>b::lent rs
 | .sl b _ _ _::rs=>b::lent rs
 | _::rs=>lent rs
 | []=>[]
def givOf (st:St):(g:Giv)→List Reg→Option (g.den×Option Nat×List Reg)
 | .none,rs=>some ((),none,rs)
 | .move t p, .vw b []::rs=>match st.blk b with
  | some k=>if k.pin=false∧k.var=false∧k.p=p∧p.noDead=true then (if h:k.ty=t then some (castTo h k.x,some b,rs) else none) else none
  | none=>none
 | .ptr t p _, .ptr b []::rs=>match st.blk b with
  | some k=>if k.var=true∧k.p=p∧p.noDead=true then (if h:k.ty=t then some (castTo h k.x,some b,rs) else none) else none
  | none=>none
 | _,_=>none
def pinOf (st:St) (b:Nat):Bool:=match st.blk b with | some k=>k.pin | none=>false
def outOf (st:St) (b:Nat):(g:Giv)→g.out→List (Nat×Option Blk)×List Kill
 | .none,_=>([],[])
 | .move _ _,_=>([(b,none)],[.all b])
 | .mut t _ q,x=>([(b,some ⟨false,pinOf st b,q,t,x⟩)],[.inner b t []])
 | .ptr t _ q,x=>([(b,some ⟨true,pinOf st b,q,t,x⟩)],[.at b t []])
def roTys:Ty→Perm→List TypeId
 | .slice e t, .ro=>e::roTys t .ro
 | .slice _ t, .own q=>roTys t q
 | .slice _ t, .hole _ q=>roTys t q++roTys t .dead
 | .prod a b,p=>roTys a p.l++roTys b p.r
 | .arr _ t,_=>roTys t .ro
 | _,_=>[]
def Giv.tys:Giv→List TypeId
 | .mut t _ q=>roTys t q
 | .ptr t _ q=>roTys t q
 | _=>[]
def lentTys (st:St):List Nat→List TypeId
 | []=>[]
 | b::l=>(match st.blk b with | some k=>rowTys k.ty | none=>[])++lentTys st l
def distB (l m:List TypeId):Bool:=l.all fun e=> !m.contains e
def keep (d n:Nat) (t:Ty) (p:Perm) (x:t.den) (U:List (Nat×Option Blk)) (K:List Kill):Eff:=
 if n=1 then hold d t p x U K else { r:= .tup d n,upd:=U++[(d,some ⟨false,false,p,t,x⟩)],kill:=K++[.all d] }
def callMut (st:St) (d:Nat) (t:Ty) (p q:Perm) (args:List Ty) (res:Ty) (n:Nat) (pr:Perm) (f:t.den→ADen args→Option (res.den×t.den)):List Reg→Option Plan
 | .vw b s::rs=>match st.blk b with
  | some k=>match sub k.ty k.p k.x s with
   | some y=>if h:y.ty=t∧y.p=p∧p.noDead=true∧(lent rs).isEmpty=true then
     match argsOf st args rs with
     | some xs=>some (.call (res.den×t.den) (f (castTo h.1 y.x) xs) fun r=>match put k.ty k.p k.x s t q r.2 with
      | some z=>some (keep d n res pr r.1 [(b,some ⟨k.var,k.pin,z.1,k.ty,z.2⟩)] [.inner b k.ty s])
      | none=>none)
     | none=>none
    else none
   | none=>none
  | none=>none
 | _=>none
def callOld (st:St) (d:Nat) (sp:Spec) (rs:List Reg):Option Plan:=
 match givOf st sp.giv rs with
 | some g=>
  if distB (roTys sp.res sp.p++sp.giv.tys) (lentTys st (lent g.2.2)) && !(lent g.2.2).contains (g.2.1.getD st.blks.length) then
   match argsOf st sp.args g.2.2 with
   | some xs=>some (.call (sp.res.den×sp.giv.out) (sp.f g.1 xs) fun r=>some (keep d sp.n sp.res sp.p r.1 (outOf st (g.2.1.getD st.blks.length) sp.giv r.2).1 (outOf st (g.2.1.getD st.blks.length) sp.giv r.2).2))
   | none=>none
  else none
 | none=>none
def callPlan (st:St) (d:Nat):Spec→List Reg→Option Plan
 | ⟨.mut t p q,args,res,n,pr,f⟩,rs=>callMut st d t p q args res n pr f rs
 | ⟨.none,args,res,n,pr,f⟩,rs=>callOld st d ⟨.none,args,res,n,pr,f⟩ rs
 | ⟨.move t p,args,res,n,pr,f⟩,rs=>callOld st d ⟨.move t p,args,res,n,pr,f⟩ rs
 | ⟨.ptr t p q,args,res,n,pr,f⟩,rs=>callOld st d ⟨.ptr t p q,args,res,n,pr,f⟩ rs
def boxHere (st:St) (t:Ty):Reg→Option Blk
 | .vw 0 []=>match st.blk 0 with
  | some k=>if k.ty=t∧k.var=false then some k else none
  | none=>none
 | _=>none
def Perm.live:Perm→Bool
 | .ro=>true
 | .own _=>true
 | _=>false
def lenReg (st:St) (ty:Option Ty):Reg→Option Reg
 | .val .str x=>if ty=some .str then some (.val (.int .i64) (slen x)) else none
 | .nilS=>if isSlice ty then some (.val (.int .i64) (0:Int)) else none
 | .sl _ _ _ n=>if isSlice ty then some (.val (.int .i64) (n:Int)) else none
 | r=>if isSlice ty then match r.cont st [] with
  | some ⟨.slice _ _,p,xs,_,_⟩=>if p.live then some (.val (.int .i64) (len xs)) else none
  | _=>none
  else none
def elemPerm (u:Ty):Perm→Option Perm
 | .own q=>some (if u.flat then u.zp else q)
 | .ro=>some (if u.flat then u.zp else .ro)
 | _=>none
def elemTake (st:St) (e:TypeId) (u:Ty) (x:Reg):Option (List (Nat×Option Blk)×List Kill):=
 if u.flat then some ([],[]) else takeAs st [] (.slice e u) x
def outAt (b:Nat) (k:Blk) (s:Path) (y:Sub):Option ((Perm×k.ty.den)×Kill):=
 match put k.ty k.p k.x s y.ty .dead y.x with
 | some z=>some (z, .gone b k.ty s)
 | none=>match s,k.p with
  | [.idx i], .own q=>some ((.hole i q,k.x), .inner b k.ty [])
  | _,_=>none
def appendPlan (C:Ctx) (st:St) (d:Nat) (t:TypeId) (s x:Reg):Option Plan:=
 match C.ty t with
 | some (.slice e u)=>
  match contAs st [] (.slice e u) x with
  | some c=>
   match elemPerm u c.1,elemTake st e u x with
   | some q,some tk=>(
   match s with
   | .nilS=>some (.chk (fitB (([]:List u.den).length+c.2.length) (C.bytes e)) { r:= .vw d [],upd:=tk.1++[(d,some ⟨false,false, .own q, .slice e u,c.2⟩)],kill:=tk.2++[.all d] })
   | .vw b []=>
    match killL tk.2 (.vw b []),st.blkU tk.1 b with
    | .vw _ _,some k=>
     if k.pin=false∧k.var=false∧k.p= .own q then
      if h:k.ty= .slice e u then
       some (.chk (fitB ((castTo h k.x:List u.den).length+c.2.length) (C.bytes e)) { r:= .vw b [],upd:=tk.1++[(b,some ⟨false,false, .own q, .slice e u,((castTo h k.x:List u.den)++c.2:List u.den)⟩)],kill:=tk.2++[.all b] })
      else none
     else none
    | _,_=>none
   | .vw b (s0::s')=>
    match killL tk.2 (.vw b (s0::s')),st.blkU tk.1 b with
    | .vw _ _,some k=>
     if k.pin then none else
     match sub k.ty k.p k.x (s0::s') with
     | some y=>
      if y.p= .own q then
       if h:y.ty= .slice e u then
        match outAt b k (s0::s') y with
        | some z=>some (.chk (fitB ((castTo h y.x:List u.den).length+c.2.length) (C.bytes e))
          { r:= .vw d [],upd:=tk.1++[(b,some ⟨k.var,k.pin,z.1.1,k.ty,z.1.2⟩),(d,some ⟨false,false, .own q, .slice e u,((castTo h y.x:List u.den)++c.2:List u.den)⟩)],kill:=tk.2++[z.2, .all d] })
        | none=>none
       else none
      else none
     | none=>none
    | _,_=>none
   | _=>none)
   | _,_=>none
  | none=>none
 | _=>none
def minmax (f:Int→Int→Int):Int→IntKind→List Reg→Option Reg
 | a,k,[]=>some (.val (.int k) a)
 | a,k, .val (.int k') y::l=>if k=k' then minmax f (f a y) k l else none
 | _,_,_=>none
def builtinPlan (C:Ctx) (st:St) (d:Nat) (b:Builtin) (ts:List TypeId) (rs:List Reg):Option Plan:=
 match b,ts,rs with
 | .len,t::_,[x]=>match lenReg st (C.ty t) x with | some r=>some (.go { r:=r }) | none=>none
 | .append,[t,t'],[s,x]=>if t=t' then appendPlan C st d t s x else none
 | .min,_, .val (.int k) a::l=>match minmax imin a k l with | some r=>some (.go { r:=r }) | none=>none
 | .max,_, .val (.int k) a::l=>match minmax imax a k l with | some r=>some (.go { r:=r }) | none=>none
 | _,_,_=>none
def isCut:Reg→Bool
 | .sl _ _ _ _=>true
 | _=>false
def rowPut (st:St) (b:Nat) (s:Path) (e:TypeId) (k:IntKind) (f:List Int→List Int):Option (Nat×Option Blk)×Option Kill:=
 match st.blk b with
 | some kb=>match sub kb.ty kb.p kb.x s with
  | some ⟨.slice e2 (.int k2), .own q,xs⟩=>if e2=e∧k2=k∧k≠ .u8 then match put kb.ty kb.p kb.x s (.slice e2 (.int k2)) (.own q) (f xs:List Int) with
    | some z=>(some (b,some ⟨kb.var,kb.pin,z.1,kb.ty,z.2⟩),some (.inner b kb.ty s))
    | none=>(none,none)
   else (none,none)
  | _=>(none,none)
 | none=>(none,none)
def copyPlan (C:Ctx) (st:St) (d:Nat) (t:TypeId) (r x:Reg):Option Plan:=
 match r with
 | .sl b s lo n=>match C.ty t with
  | some (.slice e (.int k))=>match contAs st [] (.slice e (.int k)) x with
   | some c=>if c.1.live=true∧isCut x=false then match rowPut st b s e k (fun xs=>over xs lo (List.take n c.2)) with
     | (some u,some ki)=>some (.go (keep d 1 (.int .i64) .ro ((Nat.min (List.length c.2) n:Nat):Int) [u] [ki]))
     | _=>none
    else none
   | none=>none
  | _=>none
 | _=>none
def clearPlan (C:Ctx) (st:St) (t:TypeId) (r:Reg):Option Plan:=
 match r with
 | .sl b s lo n=>match C.ty t with
  | some (.slice e (.int k))=>match rowPut st b s e k (fun xs=>over xs lo (List.replicate n (0:Int))) with
   | (some u,some ki)=>some (.go { r:= .undef,upd:=[u],kill:=[ki] })
   | _=>none
  | _=>none
 | _=>none
def zerosPlan (C:Ctx) (st:St) (t t':TypeId) (s x:Reg):Option Plan:=
 match C.ty t with
 | some (.slice e u)=>match x with
  | .val (.int .i64) m=>if C.ty t'=some (.int .i64)∧u.flat=true∧u≠ .int .u8 then match s with
    | .vw b []=>match st.blk b with
     | some k=>if k.pin=false∧k.var=false then match k.p with
       | .own q=>if h:k.ty= .slice e u then some (.chk (mkZ m (castTo h k.x:List u.den).length (C.bytes e)) { r:= .vw b [],upd:=[(b,some ⟨false,false, .own q, .slice e u,((castTo h k.x:List u.den)++List.replicate m.toNat u.dflt:List u.den)⟩)],kill:=[.all b] })
        else none
       | _=>none
      else none
     | none=>none
    | _=>none
   else none
  | _=>none
 | _=>none
def rowPlan (C:Ctx) (st:St) (dst:Option Nat) (b:Builtin) (ts:List TypeId) (rs:List Reg):Option Plan:=
 match b,ts,rs,dst with
 | .copy,[t,_],[r,x],some d=>copyPlan C st d t r x
 | .clear,[t],[r],none=>clearPlan C st t r
 | .append,[t,t'],[s,x],some d=>if t=t' then builtinPlan C st d .append [t,t'] [s,x] else zerosPlan C st t t' s x
 | _,_,_,some d=>builtinPlan C st d b ts rs
 | _,_,_,none=>none
def regsOf (st:St):List Operand→List Reg
 | []=>[]
 | x::l=>st.opd x::regsOf st l
def lastFn:List Reg→Option (Nat×List Reg)
 | []=>none
 | r::rs=>match lastFn rs with
  | some (k,l)=>some (k,r::l)
  | none=>match r,rs with
   | .fn k,[]=>some (k,[])
   | _,_=>none
def callFn (C:Ctx) (st:St) (d g:Nat) (rs:List Reg):Option Plan:=
 match lastFn rs with
 | some (k,l)=>bif Nat.blt k 65536 then (match C.fn (65536*(g+1)+k) with
  | some ⟨.none,args,res,n,p,f⟩=>callOld st d ⟨.none,args,res,n,p,f⟩ l
  | some ⟨.mut t p q,args,res,n,pr,f⟩=>callMut st d t p q args res n pr f l
  | _=>none) else none
 | none=>none
def frz (e:Eff):Option Eff:=match e.r with
 | .vw b []=>match lookU e.upd b with
  | some (some k)=>if k.p.noDead=true then some { r:= .val k.ty k.x,upd:=e.upd++[(b,none)],kill:=e.kill++[.all b] } else none
  | _=>none
 | .val _ _=>some e
 | _=>none
def frzPlan:Option Plan→Option Plan
 | some (.chk pre e)=>match frz e with
  | some e'=>some (.chk pre e')
  | none=>none
 | some (.go e)=>match frz e with
  | some e'=>some (.go e')
  | none=>none
 | some (.call ρ x mk)=>some (.call ρ x fun r=>match mk r with
  | some e=>frz e
  | none=>none)
 | none=>none
def frOp:Op→Bool
 | .build _ _=>true
 | .buildSlice _ _ _=>true
 | .call c=>match c.callee with
  | .builtin .append=>true
  | .value _=>true
  | _=>false
 | _=>false
def isProdB:Ty→Nat→Nat→Bool
 | .prod _ _,n,f=>decide (f<n)
 | _,_,_=>false
def isProd (t:Ty) (n f:Nat):Prop:=isProdB t n f=true
instance (t:Ty) (n f:Nat):Decidable (isProd t n f):=inferInstanceAs (Decidable (_=true))
theorem Zdx {t:Ty} {n f:Nat} (h:isProd t n f):∃a b,t= .prod a b∧f<n:=by
 cases t<;>simp [isProd,isProdB] at h
 exact ⟨_,_,rfl,h⟩
def sameOpd:Operand→Operand→Bool
 | .tmp a, .tmp b=>a==b
 | .const (.int .i64 a), .const (.int .i64 b)=>decide (a=b)
 | _,_=>false
def assignPlan (C:Ctx) (d:Nat) (ty:TypeId):Reg→Option Plan
 | .nilS=>match C.ty ty with
  | some (.slice e u)=>some (.go { r:= .vw d [],upd:=[(d,some ⟨false,false, .own u.zp, .slice e u,([]:List u.den)⟩)],kill:=[.all d] })
  | _=>some (.go { r:= .nilS })
 | r=>some (.go { r:=r })
def cmpPlan (C:Ctx) (op:BinOp) (t:TypeId):Reg→Reg→Option Plan
 | .val u x, .val u' y=>if h:u'=u then (if C.ty t=some u∧cmpN (C.nf t) u=true then match op with
   | .eql=>some (.go { r:= .val .bool (sameN (C.nf t) u x (castTo h y)) })
   | .neq=>some (.go { r:= .val .bool (!sameN (C.nf t) u x (castTo h y)) })
   | _=>none
  else none) else none
 | _,_=>none
def storePlan (C:Ctx) (st:St) (t:TypeId) (a x:Operand):Option Plan:=match st.opd a with
 | .ptr b s=>match st.blk b with
  | some k0=>match sub k0.ty k0.p k0.x s with
   | some y=>if C.ty t=some y.ty then
     match contAs st [] y.ty (st.opd x),takeAs st [] y.ty (st.opd x) with
     | some c,some u=>match killL u.2 (.ptr b s),st.blkU u.1 b with
      | .ptr _ _,some k=>
        match put k.ty k.p k.x s y.ty c.1 c.2 with
        | some z=>some (.go { r:= .undef,upd:=u.1++[(b,some ⟨k.var,k.pin,z.1,k.ty,z.2⟩)],kill:=u.2++[.at b k.ty s] })
        | none=>none
      | _,_=>none
     | _,_=>none
    else none
   | none=>none
  | none=>none
 | _=>none
def fillPlan (C:Ctx) (st:St) (t:TypeId) (a x:Operand):Option Plan:=
 match st.opd a,st.opd x with
 | .ptr b [.idx j], .vw d []=>match st.blk b,st.blk d with
  | some ⟨vr,pn, .hole i q, .slice e u,xs⟩,some ⟨false,false,q',u',x'⟩=>
   if d=b then none else
   if h:u'=u then (if q'=q∧C.ty t=some u then some (.chk (decide (j=i)) { r:= .undef,upd:=[(d,none),(b,some ⟨vr,pn, .own q, .slice e u,(xs.set j (castTo h x'):List u.den)⟩)],kill:=[.all d, .inner b (.slice e u) []] }) else none) else none
  | _,_=>none
 | _,_=>none
def plan0 (C:Ctx) (st:St) (o:Oper):Option Plan:=
 match o.op with
 | .move x=>some (.go { r:=st.opd x })
 | .assign x=>match o.dst with
  | some d=>assignPlan C d o.type (st.opd x)
  | none=>none
 | .pick c a b=>match st.opd c with
  | .val .bool t=>match t with
   | true=>some (.go { r:=st.opd a })
   | false=>some (.go { r:=st.opd b })
  | _=>none
 | .alloc e=>match o.dst,C.ty e with
  | some d,some t=>some (.go { r:= .ptr d [],upd:=[(d,some ⟨true,false,t.zp,t,t.dflt⟩)],kill:=[.all d] })
  | _,_=>none
 | .box e x=>match o.dst,C.ty e with
  | some d,some t=>match boxHere st t (st.opd x) with
   | some k=>some (.go { r:= .ptr 0 [],upd:=[(0,some ⟨true,false,k.p,k.ty,k.x⟩)],kill:=[.moved 0] })
   | none=>match contAs st [] t (st.opd x),takeAs st [] t (st.opd x) with
    | some c,some u=>some (.go { r:= .ptr d [],upd:=u.1++[(d,some ⟨true,false,c.1,t,c.2⟩)],kill:=u.2++[.all d] })
    | _,_=>none
  | _,_=>none
 | .build t ps=>match o.dst,C.ty t with
  | some d,some (.prod a b)=>match fill st (C.nf t) (partsOf st ps) (.prod a b) (Ty.zp (.prod a b)) (Ty.dflt (.prod a b)) [] [] with
   | some z=>some (.go (hold d (.prod a b) z.1 z.2.1 z.2.2.1 z.2.2.2))
   | none=>none
  | some _,some (.arr n u)=>if u.flat then match flatArr st u n (partsOf st ps) (List.replicate n u.dflt) with
    | some z=>some (.go { r:= .val (.arr n u) z })
    | none=>none
   else none
  | _,_=>none
 | .buildSlice t n ps=>match o.dst,C.ty t with
  | some d,some (.slice e u)=>
   if u.flat then
    match flatRow st u 0 (partsOf st ps) with
    | some z=>if ps.size=n∧n*u.sz≤16777216 then some (.go (bif C.fro d then { r:= .val (.slice e u) z,upd:=[(d,none)],kill:=[.all d] } else { r:= .vw d [],upd:=[(d,some ⟨false,false, .own u.zp, .slice e u,z⟩)],kill:=[.all d] })) else none
    | none=>none
   else match n,partsOf st ps with
    | 0,[]=>some (.go { r:= .vw d [],upd:=[(d,some ⟨false,false, .own u.zp, .slice e u,([]:List u.den)⟩)],kill:=[.all d] })
    | 1,[(0,r)]=>match contAs st [] u r,takeAs st [] u r with
     | some c,some tk=>if u.sz≤16777216 then some (.go { r:= .vw d [],upd:=tk.1++[(d,some ⟨false,false, .own c.1, .slice e u,([c.2]:List u.den)⟩)],kill:=tk.2++[.all d] }) else none
     | _,_=>none
    | 2,rs=>match valRow u 0 rs with
     | some z=>if ps.size=2∧2*u.sz≤16777216 then some (.go { r:= .vw d [],upd:=[(d,some ⟨false,false, .own .ro, .slice e u,z⟩)],kill:=[.all d] }) else none
     | none=>none
    | _,_=>none
  | _,_=>none
 | .load t a=>match st.opd a with
  | .rp u x=>if C.ty t=some u then some (.go { r:= .val u x }) else none
  | .ptr b s=>match st.blk b with
   | some k=>match sub k.ty k.p k.x s with
    | some y=>if C.ty t=some y.ty then some (.go { r:=if y.p.plain then .val y.ty y.x else .vw b s }) else none
    | none=>none
   | none=>none
  | _=>none
 | .store t a x=>match storePlan C st t a x with
  | some pl=>some pl
  | none=>fillPlan C st t a x
 | .nilCheck x=>match st.opd x with
  | .ptr b s=>some (.go { r:= .ptr b s })
  | .rp t x=>some (.go { r:= .rp t x })
  | _=>none
 | .fieldAddr t x f=>match st.opd x with
  | .ptr b s=>match st.blk b with
   | some k=>match sub k.ty k.p k.x s with
    | some y=>if C.ty t=some y.ty∧isProd y.ty (C.nf t) f then match tyAt y.ty (fieldPath (C.nf t) f) with
      | some _=>some (.go { r:= .ptr b (s++fieldPath (C.nf t) f) })
      | none=>none
     else none
    | none=>none
   | none=>none
  | .rp u x=>if C.ty t=some u∧isProd u (C.nf t) f then match sub u .ro x (fieldPath (C.nf t) f) with
    | some y=>some (.go { r:= .rp y.ty y.x })
    | none=>none
   else none
  | _=>none
 | .field t x f=>match st.opd x with
  | .val u x=>if C.ty t=some u∧isProd u (C.nf t) f then match sub u .ro x (fieldPath (C.nf t) f) with
    | some y=>some (.go { r:= .val y.ty y.x })
    | none=>none
   else none
  | .vw b s=>match st.blk b with
   | some k=>match sub k.ty k.p k.x (s++fieldPath (C.nf t) f) with
    | some y=>match sub k.ty k.p k.x s with
     | some y0=>if C.ty t=some y0.ty∧isProd y0.ty (C.nf t) f then some (.go { r:=if y.p.plain then .val y.ty y.x else .vw b (s++fieldPath (C.nf t) f) }) else none
     | none=>none
    | none=>none
   | none=>none
  | _=>none
 | .indexAddr t x i=>match st.opd i with
  | .val (.int _) i=>match st.opd x with
   | .val (.slice e u) xs=>if C.ty t=some (.slice e u) then some (.chk (inB i xs.length) { r:= .rp u (xs.getD i.toNat u.dflt) }) else none
   | .vw b s=>match st.blk b with
    | some k=>match sub k.ty k.p k.x s with
     | some ⟨.slice e u, .own _,xs⟩=>if C.ty t=some (.slice e u) then some (.chk (inB i xs.length) { r:= .ptr b (s++[.idx i.toNat]) }) else none
     | some ⟨.slice e u, .hole _ _,xs⟩=>if C.ty t=some (.slice e u) then some (.chk (inB i xs.length) { r:= .ptr b (s++[.idx i.toNat]) }) else none
     | _=>none
    | none=>none
   | .ptr b s=>match st.blk b with
    | some k=>match sub k.ty k.p k.x s with
     | some ⟨.arr n u,_,_⟩=>if C.ty t=some (.arr n u) then some (.chk (inB i n) { r:= .ptr b (s++[.idx i.toNat]) }) else none
     | _=>none
    | none=>none
   | .rp (.arr n u) xs=>if C.ty t=some (.arr n u) then some (.chk (inB i n) { r:= .rp u (xs.getD i.toNat u.dflt) }) else none
   | _=>none
  | _=>none
 | .index t x i=>match st.opd i with
  | .val (.int _) i=>match st.opd x with
   | .val .str s=>if C.ty t=some .str then some (.chk (inB i s.size) { r:= .val (.int .u8) (sbyte s i) }) else none
   | .val (.arr n u) xs=>if C.ty t=some (.arr n u) then some (.chk (inB i n) { r:= .val u (xs.getD i.toNat u.dflt) }) else none
   | _=>none
  | _=>none
 | .slice t x lo hi mx=>
  if mx.isSome then none else
  match lo.elim (some (0:Int)) (fun l=>match st.opd l with | .val (.int .i64) l=>some l | _=>none) with
  | none=>none
  | some l=>match st.opd x with
   | .val .str s=>match hi.elim (some (slen s)) (fun h=>match st.opd h with | .val (.int .i64) h=>some h | _=>none) with
    | some h=>if C.ty t=some .str then some (.chk (cutB l h s.size) { r:= .val .str (scut s l h) }) else none
    | none=>none
   | .val (.slice e u) xs=>match hi.elim (some (len xs)) (fun h=>match st.opd h with | .val (.int .i64) h=>some h | _=>none) with
    | some h=>if C.ty t=some (.slice e u) then some (.chk (cutB l h xs.length) { r:= .val (.slice e u) (cut xs l h) }) else none
    | none=>none
   | .vw b s=>match st.blk b with
    | some k=>match sub k.ty k.p k.x s with
     | some ⟨.slice e u, .own _,xs⟩=>match hi.elim (some (len xs)) (fun h=>match st.opd h with | .val (.int .i64) h=>some h | _=>none) with
      | some h=>if C.ty t=some (.slice e u) then some (.chk (cutB l h xs.length) { r:= .sl b s l.toNat (h.toNat - l.toNat) }) else none
      | none=>none
     | _=>none
    | none=>none
   | _=>none
 | .makeSlice t n m=>match o.dst,C.ty t,st.opd n with
  | some d,some (.slice e u), .val (.int .i64) n'=>if sameOpd n m then
    some (.chk (mkB n' (C.bytes e)) { r:= .vw d [],upd:=[(d,some ⟨false,false, .own u.zp, .slice e u,(List.replicate n'.toNat u.dflt:List u.den)⟩)],kill:=[.all d] })
   else none
  | _,_,_=>none
 | .binOp op t x y _=>match st.opd x,y with
  | .val .err b, .const .nilIface=>if C.ty t=some .err then match op with
    | .eql=>some (.go { r:= .val .bool b })
    | .neq=>some (.go { r:= .val .bool (!b) })
    | _=>none
   else none
  | _,_=>match binReg (decide (C.ty t=some .bool)) op (st.opd x) (st.opd y) with
   | some (some pre,r)=>some (.chk pre { r:=r })
   | some (none,r)=>some (.go { r:=r })
   | none=>cmpPlan C op t (st.opd x) (st.opd y)
 | .unOp op _ x=>match unReg op (st.opd x) with
  | some r=>some (.go { r:=r })
  | none=>none
 | .convert s t x=>match C.ty s,C.ty t with
  | some us,some u=>match convReg u (st.opd x) with
   | some r=>some (.go { r:=r })
   | none=>convStr o.dst us u st (st.opd x)
  | _,_=>none
 | .extract x i=>match st.opd x with
  | .tup b n=>match st.blk b with
   | some k=>match sub k.ty k.p k.x (fieldPath n i) with
    | some y=>if i<n then some (.go { r:=if y.p.plain then .val y.ty y.x else .vw b (fieldPath n i) }) else none
    | none=>none
   | none=>none
  | _=>none
 | .call c=>match c.callee with
  | .builtin b=>rowPlan C st o.dst b c.argTypes.toList (regsOf st c.args.toList)
  | .value f=>match st.opd f with
   | .fn g=>match C.fn g,o.dst with
    | some sp,some d=>bif Nat.blt g 65536 then callPlan st d sp (regsOf st c.args.toList) else none
    | none,some d=>callFn C st d g (regsOf st c.args.toList)
    | _,none=>none
   | _=>none
  | .invoke _ _=>none
 | _=>none
def plan (C:Ctx) (st:St) (o:Oper):Option Plan:=match frOp o.op with
 | true=>match o.dst with
  | some d=>bif C.fro d then frzPlan (plan0 C st o) else plan0 C st o
  | none=>plan0 C st o
 | false=>plan0 C st o
theorem ZY {C:Ctx} {st:St} {o:Oper} (h:frOp o.op=false):plan C st o=plan0 C st o:=by unfold plan;rw[h]
def takeR (b:Nat) (s:Path) (r':Reg) (K:List Kill) (r:Reg):Reg:=
 match r with
 | .vw c q=>bif Nat.beq c b && decide (q=s) then r' else killL K (.vw c q)
 | r=>killL K r
def outPlan (st:St) (d:Nat):Reg→Option (Bool×St)
 | .vw b s=>match st.blk b with
  | some k=>match sub k.ty k.p k.x s with
   | some y=>match contAs st [] y.ty (.vw b s),takeAs st [] y.ty (.vw b s) with
    | some c,some tk=>some (true,⟨setN (mapR (takeR b s (hold d y.ty c.1 c.2 tk.1 tk.2).r (hold d y.ty c.1 c.2 tk.1 tk.2).kill) st.regs) d (hold d y.ty c.1 c.2 tk.1 tk.2).r,updAll (hold d y.ty c.1 c.2 tk.1 tk.2).upd st.blks⟩)
    | _,_=>none
   | none=>none
  | none=>none
 | _=>none
def movPlan (C:Ctx) (st:St) (o:Oper) (d:Nat):Option (Bool×St):=
 match o.op with
 | .assign x=>outPlan st d (st.opd x)
 | .load t x=>match st.opd x with
  | .ptr b s=>match st.blk b with
   | some k=>match sub k.ty k.p k.x s with
    | some y=>if C.ty t=some y.ty then outPlan st d (.vw b s) else none
    | none=>none
   | none=>none
  | _=>none
 | _=>none
def askOf (ops:Array Oper) (o:Oper):Option Nat:=
 match o.guard with
 | some (j,_)=>(ops[j]?).bind (·.dst)
 | none=>match o.op with
  | .pick (.tmp c) _ _=>some c
  | _=>none
def St.put (st:St) (t:Nat) (r:Reg):St:=⟨setN st.regs t r,st.blks⟩
def stepK (C:Ctx) {R:Type} (ops:Array Oper) (o:Oper) (st:St) (K:St→Option R):Option R:=
 let run:Unit→Option R:=fun _=>match (match o.dst with | some d=>bif C.fro (1000000+d) then movPlan C st o d else none | none=>none) with
  | some (b,st')=>bif b then K st' else none
  | none=>match plan C st o with
   | none=>none
   | some (.go e)=>K (e.apply o.dst st)
   | some (.chk b e)=>bif b then K (e.apply o.dst st) else none
   | some (.call _ x mk)=>x.bind fun r=>match mk r with | some e=>K (e.apply o.dst st) | none=>none
 match o.guard with
 | none=>run ()
 | some (j,want)=>match (ops[j]?).bind (·.dst) with
  | none=>none
  | some c=>match st.reg c with
   | .val .bool b=>match b==want with
    | true=>run ()
    | false=>K (match o.dst with | some d=>st.put d .no | none=>st)
   | .no=>K (match o.dst with | some d=>st.put d .no | none=>st)
   | _=>none
def opsK (C:Ctx) {R:Type} (ops:Array Oper):List Oper→St→(St→Option R)→Option R
 | [],st,K=>K st
 | o::rest,st,K=>match askOf ops o with
  | none=>stepK C ops o st fun st=>opsK C ops rest st K
  | some c=>match st.reg c with
   | .val .bool b=>bif b then stepK C ops o (st.put c (.val .bool true)) fun st=>opsK C ops rest st K
     else stepK C ops o (st.put c (.val .bool false)) fun st=>opsK C ops rest st K
   | .no=>stepK C ops o st fun st=>opsK C ops rest st K
   | _=>none
end
end Go.Rx
namespace Go.Rx
noncomputable section
open Go.RowKit
theorem ZW {α:Type}:∀(l:List α) (i j:Nat) (v d:α),nth (setN l i v) j d=if j=i∧i<l.length then v else nth l j d
 | [],i,j,v,d=>by simp
 | a::l,0,0,v,d=>by simp
 | a::l,0,j+1,v,d=>by simp
 | a::l,i+1,0,v,d=>by simp
 | a::l,i+1,j+1,v,d=>by simpa using ZW l i j v d
theorem Zi {α:Type}:∀(l:List α) (i:Nat) (v:α),(setN l i v).length=l.length
 | [],_,_=>rfl
 | _::_,0,_=>rfl
 | _::l,i+1,v=>by simpa using Zi l i v
theorem Zah (f:Reg→Reg):∀l,(mapR f l).length=l.length
 | []=>rfl
 | _::l=>by simpa using Zah f l
theorem Zf4 (f:Reg→Reg) (hf:f .undef= .undef):∀(l:List Reg) (n:Nat),nth (mapR f l) n .undef=f (nth l n .undef)
 | [],_=>by simp [hf]
 | _::_,0=>rfl
 | _::l,n+1=>by simpa using Zf4 f hf l n
@[simp] theorem killR_undef (k:Kill):killR k .undef= .undef:=by cases k<;>rfl
@[simp] theorem killL_undef:∀l,killL l .undef= .undef
 | []=>rfl
 | k::l=>by simp [killL,killL_undef l]
theorem ZaC:∀(l:List Kill) (rs:List Reg) (n:Nat),nth (killAll l rs) n .undef=killL l (nth rs n .undef)
 | [],_,_=>rfl
 | k::l,rs,n=>by simp only[killAll,killL];rw[ZaC l,Zf4 _ (killR_undef k)]
theorem Zo:∀(l:List Kill) (rs:List Reg),(killAll l rs).length=rs.length
 | [],_=>rfl
 | k::l,rs=>by simp only[killAll];rw[Zo l,Zah]
theorem Zc8:∀(l m:List Kill) (r:Reg),killL (l++m) r=killL m (killL l r)
 | [],_,_=>rfl
 | k::l,m,r=>by simp only[List.cons_append,killL];exact Zc8 l m _
structure Env where
 g:Nat→Gh
 base:Nat→Nat
def comps:(n:Nat)→(t:Ty)→t.den→Gh→List Value
 | 0,_,_,_=>[]
 | 1,t,x,g=>[toV t (cells t x g)]
 | n+2, .prod a b,x,g=>toV a (cells a x.1 g.l)::comps (n+1) b x.2 g.r
 | _+2,_,_,_=>[]
def RegOk (E:Env) (w:World) (T:TypeId→Nat→Prop) (blk:Nat→Option Blk):Reg→Value→Prop
 | .undef,_=>True
 | .no,v=>v=undef
 | .val t x,v=>∃g,Holds w T t .ro x g∧v=toV t (cells t x g)
 | .vw b s,v=>∃k y,blk b=some k∧sub k.ty k.p k.x s=some y∧inR k.ty k.x s∧v=toV y.ty (cells y.ty y.x (ghAt k.ty (E.g b) s))
 | .sl b s lo n,v=>∃k e u q xs,blk b=some k∧sub k.ty k.p k.x s=some ⟨.slice e u, .own q,xs⟩∧inR k.ty k.x s∧lo+n≤xs.length∧
   ∃A cap,v= .slice A n cap∧n≤cap∧(A=none→cap=0)∧(∀a,A=some a→a.spot=none)∧∀i,i<n→∃a,A=some a∧a.add (i*u.sz)=(Value.base (ghAt k.ty (E.g b) s).head).add ((lo+i)*u.sz)
 | .ptr b s,v=>∃k y,blk b=some k∧sub k.ty k.p k.x s=some y∧inR k.ty k.x s∧(k.var=true∨deep k.ty s=true)∧v= .pointer (some (addrOf k.ty (E.g b) s ⟨E.base b,0,none⟩))
 | .rp t x,v=>∃g a,v= .pointer (some a)∧a.spot=none∧Holds w T t .ro x g∧MemAt w a (cells t x g)∧∃e,T e a.block
 | .fn f,v=>v= .func (.func f) #[] #[]
 | .nilS,v=>v= .slice none 0 0
 | .tup b n,v=>∃k,blk b=some k∧k.var=false∧v= .tuple (comps n k.ty k.x (E.g b)).toArray
def feet (E:Env) (blk:Nat→Option Blk) (b:Nat):List Nat:=
 match blk b with
 | some k=>(if k.var then [E.base b] else [])++foot k.ty k.p k.x (E.g b)
 | none=>[]
def Owned (E:Env) (blk:Nat→Option Blk) (k:Nat):Prop:=∃b,k∈feet E blk b
structure Sep (E:Env) (blk:Nat→Option Blk):Prop where
 nodup:∀b,(feet E blk b).Nodup
 apart:∀b b' k,k∈feet E blk b→k∈feet E blk b'→b=b'
def Tch (T0:TypeId→Nat→Prop) (E:Env) (blk:Nat→Option Blk) (w:World) (e:TypeId) (k:Nat):Prop:=T0 e k∧k<w.heap.size∧¬Owned E blk k
structure BlkOk (E:Env) (w:World) (T:TypeId→Nat→Prop) (b:Nat) (k:Blk):Prop where
 holds:Holds w T k.ty k.p k.x (E.g b)
 var:k.var=true→∃e,w.heap[E.base b]? =some (.cells (cells k.ty k.x (E.g b)).toArray e (0,0))
structure Frame (w0:World) (F0:List Nat) (w:World):Prop where
 os:w.os=w0.os
 tape:w.tape=w0.tape
 output:w.output=w0.output
 size:w0.heap.size≤w.heap.size
 block:∀k,k<w0.heap.size→k∉F0→w.heap[k]? =w0.heap[k]?
structure Mem (w0:World) (F0:List Nat) (T0:TypeId→Nat→Prop) (E:Env) (blk:Nat→Option Blk) (w:World):Prop where
 blks:∀b k,blk b=some k→BlkOk E w (Tch T0 E blk w) b k
 sep:Sep E blk
 own:∀k,Owned E blk k→k<w.heap.size∧(w0.heap.size≤k∨k∈F0)
 frame:Frame w0 F0 w
structure Sim (w0:World) (F0:List Nat) (T0:TypeId→Nat→Prop) (E:Env) (st:St) (a:Act) (w:World):Prop where
 regs:∀t,RegOk E w (Tch T0 E st.blk w) st.blk (st.reg t) (a.tmps.getD t undef)
 size:a.tmps.size=st.regs.length
 defers:a.defers=[]
 mem:Mem w0 F0 T0 E st.blk w
theorem Zi8 {t:Option Ty} (h:isSlice t=true):∃e u,t=some (.slice e u):=by
 match t,h with
 | some (.slice e u),_=>exact ⟨e,u,rfl⟩
theorem Zcn:∀(t:Ty) (p p':Perm) (x x':t.den) (s:Path) (z:Sub) (g g':Gh) (a:Addr),hasIdx s=false→sub t p x s=some z→
  ∃z',sub t p' x' s=some z'∧z'.ty=z.ty∧inR t x' s∧addrOf t g' s a=addrOf t g s a
 | t,p,p',x,x',[],z,g,g',a,_,hs=>by
  have:z=⟨t,p,x⟩:=by cases t<;>cases p<;>simpa [sub,eq_comm] using hs
  subst this;refine ⟨⟨t,p',x'⟩,by cases t<;>cases p'<;>rfl,rfl,by cases t<;>trivial,by cases t<;>rfl⟩
 | .prod ta tb,p,p',x,x', .fst::s,z,g,g',a,hi,hs=>by
  simp only[hasIdx] at hi;simp only[sub] at hs;obtain ⟨z',h1,h2,h3,h4⟩:=Zcn ta p.l p'.l x.1 x'.1 s z g.l g'.l a hi hs;exact ⟨z',h1,h2,h3,h4⟩
 | .prod ta tb,p,p',x,x', .snd::s,z,g,g',a,hi,hs=>by
  simp only[hasIdx] at hi;simp only[sub] at hs;obtain ⟨z',h1,h2,h3,h4⟩:=Zcn tb p.r p'.r x.2 x'.2 s z g.r g'.r (a.add ta.sz) hi hs;exact ⟨z',h1,h2,h3,h4⟩
 | t,_,_,_,_, .idx _::_,_,_,_,_,hi,_=>by simp [hasIdx] at hi
 | .int _,_,_,_,_, .fst::_,_,_,_,_,_,hs | .bool,_,_,_,_, .fst::_,_,_,_,_,_,hs | .str,_,_,_,_, .fst::_,_,_,_,_,_,hs | .err,_,_,_,_, .fst::_,_,_,_,_,_,hs=>by simp [sub] at hs
 | .int _,_,_,_,_, .snd::_,_,_,_,_,_,hs | .bool,_,_,_,_, .snd::_,_,_,_,_,_,hs | .str,_,_,_,_, .snd::_,_,_,_,_,_,hs | .err,_,_,_,_, .snd::_,_,_,_,_,_,hs=>by simp [sub] at hs
 | .arr _ _,_,_,_,_, .fst::_,_,_,_,_,_,hs | .arr _ _,_,_,_,_, .snd::_,_,_,_,_,_,hs=>by simp [sub] at hs
 | .slice _ _,p,_,_,_, .fst::_,_,_,_,_,_,hs | .slice _ _,p,_,_,_, .snd::_,_,_,_,_,_,hs=>by cases p<;>simp [sub] at hs
theorem Zd0:∀(t:Ty) (p:Perm) (x:t.den) (s:Path) (y:Sub) (q0:Perm) (v:y.ty.den) (r:Perm×t.den) (g gz:Gh) (q:Path) (z:Sub) (a:Addr),
  sub t p x s=some y→inR t x s→put t p x s y.ty q0 v=some r→sub t p x q=some z→inR t x q→extIn s q=false→
  ∃z',sub t r.1 r.2 q=some z'∧z'.ty=z.ty∧inR t r.2 q∧addrOf t (ghSet t g s gz) q a=addrOf t g q a∧
   (ext s q=false→(ext q s=false∨isSlice (tyAt t q)=true)→cells z'.ty z'.x (ghAt t (ghSet t g s gz) q)=cells z.ty z.x (ghAt t g q)∧
    (∀e u o xs,z=⟨.slice e u, .own o,xs⟩→∃xs',z'=⟨.slice e u, .own o,xs'⟩∧xs'.length=xs.length)∧(ghAt t (ghSet t g s gz) q).head=(ghAt t g q).head)
 | t,p,x,[],y,q0,v,r,g,gz,q,z,a,hs,_,hp,hz,hq,hx=>by
  have:y=⟨t,p,x⟩:=by cases t<;>cases p<;>simpa [sub,eq_comm] using hs
  subst this;obtain ⟨_,rfl⟩:=Zfz hp;simp only[extIn] at hx;obtain ⟨z',h1,h2,h3,h4⟩:=Zcn t p q0 x v q z g (ghSet t g [] gz) a hx hz;exact ⟨z',h1,h2,h3,h4,fun h=>by cases q<;>simp [ext] at h⟩
 | .prod ta tb,p,x, .fst::s,y,q0,v,r,g,gz,q,z,a,hs,hr,hp,hz,hq,hx=>by
  simp only[sub] at hs;simp only[inR] at hr;simp only[put,Option.map_eq_some_iff] at hp;obtain ⟨r',hp,rfl⟩:=hp
  match q,hx with
  | [],_=>
   have:z=⟨.prod ta tb,p,x⟩:=by simpa [sub,eq_comm] using hz
   subst this;exact ⟨⟨.prod ta tb,Perm.mk r'.1 p.r,(r'.2,x.2)⟩,rfl,rfl,trivial,rfl,fun _ h=>by rcases h with h | h<;>simp [ext,tyAt,isSlice] at h⟩
  | .fst::q,hx=>
   simp only[sub] at hz;simp only[inR] at hq;simp only[extIn] at hx;obtain ⟨z',h1,h2,h3,h4,h5⟩:=Zd0 ta p.l x.1 s y q0 v r' g.l gz q z a hs hr hp hz hq hx;exact ⟨z',by simpa [sub] using h1,h2,by simpa [inR] using h3,by simpa [addrOf,ghSet] using h4,by simpa [ext,tyAt,ghAt,ghSet] using h5⟩
  | .snd::q,hx=>
   simp only[sub] at hz;simp only[inR] at hq;exact ⟨z,by simpa [sub] using hz,rfl,by simpa [inR] using hq,by simp [addrOf,ghSet],fun _ _=>⟨by simp [ghAt,ghSet],fun e u o xs h=>⟨xs,h,rfl⟩,by simp [ghAt,ghSet]⟩⟩
  | .idx _::_,_=>simp [sub] at hz
 | .prod ta tb,p,x, .snd::s,y,q0,v,r,g,gz,q,z,a,hs,hr,hp,hz,hq,hx=>by
  simp only[sub] at hs;simp only[inR] at hr;simp only[put,Option.map_eq_some_iff] at hp;obtain ⟨r',hp,rfl⟩:=hp
  match q,hx with
  | [],_=>
   have:z=⟨.prod ta tb,p,x⟩:=by simpa [sub,eq_comm] using hz
   subst this;exact ⟨⟨.prod ta tb,Perm.mk p.l r'.1,(x.1,r'.2)⟩,rfl,rfl,trivial,rfl,fun _ h=>by rcases h with h | h<;>simp [ext,tyAt,isSlice] at h⟩
  | .snd::q,hx=>
   simp only[sub] at hz;simp only[inR] at hq;simp only[extIn] at hx;obtain ⟨z',h1,h2,h3,h4,h5⟩:=Zd0 tb p.r x.2 s y q0 v r' g.r gz q z (a.add ta.sz) hs hr hp hz hq hx;exact ⟨z',by simpa [sub] using h1,h2,by simpa [inR] using h3,by simpa [addrOf,ghSet] using h4,by simpa [ext,tyAt,ghAt,ghSet] using h5⟩
  | .fst::q,hx=>
   simp only[sub] at hz;simp only[inR] at hq;exact ⟨z,by simpa [sub] using hz,rfl,by simpa [inR] using hq,by simp [addrOf,ghSet],fun _ _=>⟨by simp [ghAt,ghSet],fun e u o xs h=>⟨xs,h,rfl⟩,by simp [ghAt,ghSet]⟩⟩
  | .idx _::_,_=>simp [sub] at hz
 | .arr n t,p,xs, .idx i::s,y,q0,v,r,g,gz,q,z,a,hs,hr,hp,hz,hq,hx=>by
  simp only[sub] at hs;simp only[inR] at hr;simp only[put,Option.bind_eq_some_iff] at hp;obtain ⟨r',hp,hp2⟩:=hp;split at hp2
  case isFalse=>cases hp2
  rename_i hro;cases hp2
  match q,hx with
  | [],_=>
   have:z=⟨.arr n t,p,xs⟩:=by simpa [sub,eq_comm] using hz
   subst this;exact ⟨⟨.arr n t,p,xs.set i r'.2⟩,rfl,rfl,trivial,rfl,fun _ h=>by rcases h with h | h<;>simp [ext,tyAt,isSlice] at h⟩
  | .idx j::q,hx'=>
   simp only[sub] at hz;simp only[inR] at hq;simp only[extIn] at hx';by_cases ej:j=i
   ·subst ej
    obtain ⟨z',h1,h2,h3,h4,h5⟩:=Zd0 t .ro (xs.getD j t.dflt) s y q0 v r' (g.at j) gz q z (a.add (j*t.sz)) hs hr.2 hp hz hq.2 hx';have hg:(xs.set j r'.2).getD j t.dflt=r'.2:=by rw[ZH _ _ _ _ _ hr.1.2,if_pos rfl]
    refine ⟨z',by simp only[sub];rw[hg];exact hro▸h1,h2,by simp only[inR];rw[hg];exact ⟨⟨hq.1.1,by rw[List.length_set];exact hq.1.2⟩,h3⟩,by simpa [addrOf,ghSet,Gh.at] using h4,by simpa [ext,tyAt,ghAt,ghSet,Gh.at] using h5⟩
   ·have hg:(xs.set i r'.2).getD j t.dflt=xs.getD j t.dflt:=by rw[ZH _ _ _ _ _ hr.1.2,if_neg ej]
    exact ⟨z,by simp only[sub];rw[hg];exact hz,rfl,by simp only[inR];rw[hg,List.length_set];exact hq,by simp [addrOf,ghSet,Gh.at,ej],fun _ _=>⟨by simp [ghAt,ghSet,Gh.at,ej],fun e u o xs h=>⟨xs,h,rfl⟩,by simp [ghAt,ghSet,Gh.at,ej]⟩⟩
  | .fst::_,_=>simp [sub] at hz
  | .snd::_,_=>simp [sub] at hz
 | .slice e t, .own o,xs, .idx i::s,y,q0,v,r,g,gz,q,z,a,hs,hr,hp,hz,hq,hx=>by
  simp only[sub] at hs;simp only[inR] at hr;simp only[put,Option.bind_eq_some_iff] at hp;obtain ⟨r',hp,hp2⟩:=hp;split at hp2
  case isFalse=>cases hp2
  rename_i hro;cases hp2
  match q,hx with
  | [],_=>
   have:z=⟨.slice e t, .own o,xs⟩:=by simpa [sub,eq_comm] using hz
   subst this;refine ⟨⟨.slice e t, .own o,xs.set i r'.2⟩,rfl,rfl,trivial,rfl,fun _ _=>⟨by simp [cells,ghAt,ghSet,Gh.head],fun e' u' o' xs' h=> ?_,by simp [ghAt,ghSet,Gh.head]⟩⟩;cases h;exact ⟨xs.set i r'.2,rfl,by simp⟩
  | .idx j::q,hx'=>
   simp only[sub] at hz;simp only[inR] at hq;simp only[extIn] at hx';by_cases ej:j=i
   ·subst ej
    obtain ⟨z',h1,h2,h3,h4,h5⟩:=Zd0 t o (xs.getD j t.dflt) s y q0 v r' (g.at j) gz q z ((Value.base g.head).add (j*t.sz)) hs hr.2 hp hz hq.2 hx';have hg:(xs.set j r'.2).getD j t.dflt=r'.2:=by rw[ZH _ _ _ _ _ hr.1,if_pos rfl]
    refine ⟨z',by simp only[sub];rw[hg];exact hro▸h1,h2,by simp only[inR];rw[hg];exact ⟨by rw[List.length_set];exact hq.1,h3⟩,by simpa [addrOf,ghSet,Gh.at,Gh.head] using h4,by simpa [ext,tyAt,ghAt,ghSet,Gh.at] using h5⟩
   ·have hg:(xs.set i r'.2).getD j t.dflt=xs.getD j t.dflt:=by rw[ZH _ _ _ _ _ hr.1,if_neg ej]
    exact ⟨z,by simp only[sub];rw[hg];exact hz,rfl,by simp only[inR];rw[hg,List.length_set];exact hq,by simp [addrOf,ghSet,Gh.at,ej,Gh.head],fun _ _=>⟨by simp [ghAt,ghSet,Gh.at,ej],fun e u o xs h=>⟨xs,h,rfl⟩,by simp [ghAt,ghSet,Gh.at,ej]⟩⟩
  | .fst::_,_=>simp [sub] at hz
  | .snd::_,_=>simp [sub] at hz
 | .int _,_,_,_::_,_,_,_,_,_,_,_,_,_,hs,_,_,_,_,_ | .bool,_,_,_::_,_,_,_,_,_,_,_,_,_,hs,_,_,_,_,_=>by simp [sub] at hs
 | .str,_,_,_::_,_,_,_,_,_,_,_,_,_,hs,_,_,_,_,_ | .err,_,_,_::_,_,_,_,_,_,_,_,_,_,hs,_,_,_,_,_=>by simp [sub] at hs
 | .prod _ _,_,_, .idx _::_,_,_,_,_,_,_,_,_,_,hs,_,_,_,_,_=>by simp [sub] at hs
 | .arr _ _,_,_, .fst::_,_,_,_,_,_,_,_,_,_,hs,_,_,_,_,_ | .arr _ _,_,_, .snd::_,_,_,_,_,_,_,_,_,_,hs,_,_,_,_,_=>by simp [sub] at hs
 | .slice _ _, .own _,_, .fst::_,_,_,_,_,_,_,_,_,_,hs,_,_,_,_,_ | .slice _ _, .own _,_, .snd::_,_,_,_,_,_,_,_,_,_,hs,_,_,_,_,_ | .slice _ _, .hole _ _,_, .fst::_,_,_,_,_,_,_,_,_,_,hs,_,_,_,_,_ | .slice _ _, .hole _ _,_, .snd::_,_,_,_,_,_,_,_,_,_,hs,_,_,_,_,_=>by simp [sub] at hs
 | .slice _ _, .ro,_,_::_,_,_,_,_,_,_,_,_,_,hs,_,_,_,_,_ | .slice _ _, .dead,_,_::_,_,_,_,_,_,_,_,_,_,hs,_,_,_,_,_ | .slice _ _, .pr _ _,_,_::_,_,_,_,_,_,_,_,_,_,hs,_,_,_,_,_=>by simp [sub] at hs
end
end Go.Rx
namespace Go.Rx
noncomputable section
open Go.RowKit
def Carries (K:List Kill) (E:Env) (w:World) (T:TypeId→Nat→Prop) (blk:Nat→Option Blk) (E':Env) (w':World) (T':TypeId→Nat→Prop) (blk':Nat→Option Blk):Prop:=
 ∀r v,RegOk E w T blk r v→RegOk E' w' T' blk' (killL K r) v
theorem Carries.trans {K K':List Kill} {E w T blk E' w' T' blk' E'' w'' T'' blk''} (h:Carries K E w T blk E' w' T' blk') (h':Carries K' E' w' T' blk' E'' w'' T'' blk''):Carries (K++K') E w T blk E'' w'' T'' blk'':=
 fun r v hr=>by rw[Zc8];exact h' _ _ (h _ _ hr)
def Kept (w:World) (T:TypeId→Nat→Prop) (w':World) (T':TypeId→Nat→Prop):Prop:=∀e k,T e k→w'.heap[k]? =w.heap[k]? ∧T' e k
theorem Kept.refl (w:World) (T:TypeId→Nat→Prop):Kept w T w T:=fun _ _ h=>⟨rfl,h⟩
theorem Holds.kept {w w':World} {T T':TypeId→Nat→Prop} {t:Ty} {x:t.den} {g:Gh} (h:Holds w T t .ro x g) (hk:Kept w T w' T'):Holds w' T' t .ro x g:=
 Holds.agree t _ _ _ h (by simp [foot_ro]) hk
theorem RegOk.val_kept {E E':Env} {w w':World} {T T':TypeId→Nat→Prop} {blk blk':Nat→Option Blk} {t:Ty} {x:t.den} {v:Value} (h:RegOk E w T blk (.val t x) v) (hk:Kept w T w' T'):RegOk E' w' T' blk' (.val t x) v:=
 let ⟨g,h1,h2⟩:=h
 ⟨g,h1.kept hk,h2⟩
theorem RegOk.rp_kept {E E':Env} {w w':World} {T T':TypeId→Nat→Prop} {blk blk':Nat→Option Blk} {t:Ty} {x:t.den} {v:Value} (h:RegOk E w T blk (.rp t x) v) (hk:Kept w T w' T'):RegOk E' w' T' blk' (.rp t x) v:=
 let ⟨g,a,h1,h2,h3,h4,e,h5⟩:=h
 ⟨g,a,h1,h2,h3.kept hk,h4.agree fun _=>(hk _ _ h5).1,e,(hk _ _ h5).2⟩
def setB (blk:Nat→Option Blk) (b:Nat) (o:Option Blk):Nat→Option Blk:=fun i=>if i=b then o else blk i
def setG (g:Nat→Gh) (b:Nat) (y:Gh):Nat→Gh:=fun i=>if i=b then y else g i
@[simp] theorem setB_same (blk:Nat→Option Blk) (b:Nat) (o:Option Blk):setB blk b o b=o:=by simp [setB]
@[simp] theorem setG_same (g:Nat→Gh) (b:Nat) (y:Gh):setG g b y b=y:=by simp [setG]
theorem Ze (blk:Nat→Option Blk) {b i:Nat} (o:Option Blk) (h:i≠b):setB blk b o i=blk i:=by simp [setB,h]
theorem Zl (g:Nat→Gh) {b i:Nat} (o:Gh) (h:i≠b):setG g b o i=g i:=by simp [setG,h]
theorem Zbo {E:Env} {w w':World} {T T':TypeId→Nat→Prop} {blk:Nat→Option Blk} (hk:Kept w T w' T'):Carries [] E w T blk E w' T' blk:=by
 intro r v h;cases r with
 | val t x=>exact h.val_kept hk
 | rp t x=>exact h.rp_kept hk
 | _=>exact h
theorem Zm {E E':Env} {w w':World} {T T':TypeId→Nat→Prop} {blk:Nat→Option Blk} (b:Nat) (o:Option Blk) (hk:Kept w T w' T') (hg:∀i,i≠b→E'.g i=E.g i) (hb:∀i,i≠b→E'.base i=E.base i):
  Carries [.all b] E w T blk E' w' T' (setB blk b o):=by
 intro r v h;cases r with
 | val t x=>exact h.val_kept hk
 | rp t x=>exact h.rp_kept hk
 | vw c s=>
  simp only[killL,killR];split
  ·trivial
  ·rename_i hne
   obtain ⟨k,y,h1,h2,h3,h4⟩:=h;exact ⟨k,y,by rw[Ze _ _ hne];exact h1,h2,h3,by rw[hg _ hne];exact h4⟩
 | sl c s lo n=>
  simp only[killL,killR];split
  ·trivial
  ·rename_i hne
   obtain ⟨k,e,u,q,xs,h1,h2,h3,h4,h5⟩:=h;exact ⟨k,e,u,q,xs,by rw[Ze _ _ hne];exact h1,h2,h3,h4,by rw[hg _ hne];exact h5⟩
 | ptr c s=>
  simp only[killL,killR];split
  ·trivial
  ·rename_i hne
   obtain ⟨k,y,h1,h2,h3,h4,h5⟩:=h;exact ⟨k,y,by rw[Ze _ _ hne];exact h1,h2,h3,h4,by rw[hg _ hne,hb _ hne];exact h5⟩
 | tup c n=>
  simp only[killL,killR];split
  ·trivial
  ·rename_i hne
   obtain ⟨k,h1,h2,h3⟩:=h;exact ⟨k,by rw[Ze _ _ hne];exact h1,h2,by rw[hg _ hne];exact h3⟩
 | _=>exact h
theorem Zc9:∀(s q:Path),extIn s q=true→ext s q=true
 | [],_,_=>by simp [ext]
 | .fst::s, .fst::q,h | .snd::s, .snd::q,h | .idx _::s, .idx _::q,h=>by simp only[extIn] at h;simpa [ext] using Zc9 s q h
 | .fst::_,[],h | .snd::_,[],h | .idx _::_,[],h | .fst::_, .snd::_,h | .fst::_, .idx _::_,h | .snd::_, .fst::_,h | .snd::_, .idx _::_,h | .idx _::_, .fst::_,h | .idx _::_, .snd::_,h=>by simp [extIn] at h
theorem Zai:∀(t:Ty) (p:Perm) (x:t.den) (s:Path) (z:Sub),sub t p x s=some z→tyAt t s=some z.ty
 | t,p,x,[],z,h=>by
  have:z=⟨t,p,x⟩:=by cases t<;>cases p<;>simpa [sub,eq_comm] using h
  subst this;cases t<;>rfl
 | .prod a b,p,x, .fst::s,z,h=>by simp only[sub] at h;simpa [tyAt] using Zai a _ _ s z h
 | .prod a b,p,x, .snd::s,z,h=>by simp only[sub] at h;simpa [tyAt] using Zai b _ _ s z h
 | .arr n t,p,xs, .idx i::s,z,h=>by simp only[sub] at h;simpa [tyAt] using Zai t _ _ s z h
 | .slice e t, .own q,xs, .idx i::s,z,h=>by simp only[sub] at h;simpa [tyAt] using Zai t _ _ s z h
 | .slice e t, .hole z0 q,xs, .idx i::s,z,h=>by simp only[sub] at h;simpa [tyAt] using Zai t _ _ s z h
 | .int _,_,_,_::_,_,hs | .bool,_,_,_::_,_,hs | .str,_,_,_::_,_,hs | .err,_,_,_::_,_,hs=>by simp [sub] at hs
 | .prod _ _,_,_, .idx _::_,_,hs | .arr _ _,_,_, .fst::_,_,hs | .arr _ _,_,_, .snd::_,_,hs=>by simp [sub] at hs
 | .slice _ _, .own _,_, .fst::_,_,hs | .slice _ _, .own _,_, .snd::_,_,hs | .slice _ _, .hole _ _,_, .fst::_,_,hs | .slice _ _, .hole _ _,_, .snd::_,_,hs=>by simp [sub] at hs
 | .slice _ _, .ro,_,_::_,_,hs | .slice _ _, .dead,_,_::_,_,hs | .slice _ _, .pr _ _,_,_::_,_,hs=>by simp [sub] at hs
theorem Zdy {E E':Env} {w w':World} {T T':TypeId→Nat→Prop} {blk:Nat→Option Blk} {b:Nat} {k:Blk} {s:Path} {y:Sub} {q0:Perm} {v0:y.ty.den} {r:Perm×k.ty.den} {gz:Gh}
  (hb:blk b=some k) (hs:sub k.ty k.p k.x s=some y) (hr:inR k.ty k.x s) (hp:put k.ty k.p k.x s y.ty q0 v0=some r) (hk:Kept w T w' T') (hg:E'.g=setG E.g b (ghSet k.ty (E.g b) s gz)) (hbase:E'.base=E.base):
  Carries [.at b k.ty s] E w T blk E' w' T' (setB blk b (some ⟨k.var,k.pin,r.1,k.ty,r.2⟩)):=by
 intro rg v h;cases rg with
 | val t x=>exact h.val_kept hk
 | rp t x=>exact h.rp_kept hk
 | vw c q=>
  obtain ⟨k',z,h1,h2,h3,h4⟩:=h;simp only[killL,killR];by_cases e:c=b
  ·subst e
   rw[if_pos rfl];split
   ·trivial
   ·rename_i hne
    simp only[Bool.or_eq_true,Xh,Bool.not_eq_true',not_or,not_and,Bool.not_eq_true,Bool.not_eq_false] at hne;rw[hb] at h1;cases h1;have hx:extIn s q=false:=by
     cases hh:extIn s q with
     | false=>rfl
     | true=>exact absurd (Zc9 s q hh) (by simp [hne.1])
    obtain ⟨z',g1,g2,g3,_,g5⟩:=Zd0 k.ty k.p k.x s y q0 v0 r (E.g c) gz q z default hs hr hp h2 h3 hx;refine ⟨_,z',setB_same _ _ _,g1,g3, ?_⟩;rw[hg,setG_same];have hor:ext q s=false∨isSlice (tyAt k.ty q)=true:=by
     cases hh:ext q s with
     | false=>exact .inl rfl
     | true=>exact .inr (hne.2 hh)
    show v=toV z'.ty (cells z'.ty z'.x (ghAt k.ty (ghSet k.ty (E.g c) s gz) q));rw[(g5 hne.1 hor).1,g2];exact h4
  ·rw[if_neg e]
   exact ⟨k',z,by rw[Ze _ _ e];exact h1,h2,h3,by rw[hg,Zl _ _ e];exact h4⟩
 | sl c q lo n=>
  obtain ⟨k',e',u,o,xs,h1,h2,h3,h4,h5⟩:=h;simp only[killL,killR];by_cases e:c=b
  ·subst e
   rw[if_pos rfl];split
   ·trivial
   ·rename_i hne
    simp only[Bool.not_eq_true] at hne;rw[hb] at h1;cases h1;have hx:extIn s q=false:=by
     cases hh:extIn s q with
     | false=>rfl
     | true=>exact absurd (Zc9 s q hh) (by simp [hne])
    obtain ⟨z',g1,g2,g3,_,g5⟩:=Zd0 k.ty k.p k.x s y q0 v0 r (E.g c) gz q _ default hs hr hp h2 h3 hx;obtain ⟨_,g6,g7⟩:=g5 hne (.inr (by rw[Zai _ _ _ _ _ h2];rfl))
    obtain ⟨xs',rfl,hl⟩:=g6 _ _ _ _ rfl;refine ⟨_,e',u,o,xs',setB_same _ _ _,g1,g3,by omega, ?_⟩;rw[hg,setG_same];show ∃A cap,_∧_∧_∧_∧∀i,i<n→∃a,A=some a∧_=(Value.base (ghAt k.ty (ghSet k.ty (E.g c) s gz) q).head).add _
    rw[g7];exact h5
  ·rw[if_neg e]
   exact ⟨k',e',u,o,xs,by rw[Ze _ _ e];exact h1,h2,h3,h4,by rw[hg,Zl _ _ e];exact h5⟩
 | ptr c q=>
  obtain ⟨k',z,h1,h2,h3,h4,h5⟩:=h;simp only[killL,killR];by_cases e:c=b
  ·subst e
   rw[if_pos rfl];split
   ·trivial
   ·rename_i hne
    simp only[Bool.not_eq_true] at hne;rw[hb] at h1;cases h1;obtain ⟨z',g1,g2,g3,g4,_⟩:=Zd0 k.ty k.p k.x s y q0 v0 r (E.g c) gz q z ⟨E.base c,0,none⟩ hs hr hp h2 h3 hne;exact ⟨_,z',setB_same _ _ _,g1,g3,h4,by rw[hg,setG_same,hbase];show v= .pointer (some (addrOf k.ty (ghSet k.ty (E.g c) s gz) q _));rw[g4];exact h5⟩
  ·rw[if_neg e]
   exact ⟨k',z,by rw[Ze _ _ e];exact h1,h2,h3,h4,by rw[hg,Zl _ _ e,hbase];exact h5⟩
 | tup c n=>
  obtain ⟨k',h1,h2,h3⟩:=h;simp only[killL,killR];split
  ·trivial
  ·rename_i hne
   exact ⟨k',by rw[Ze _ _ hne];exact h1,h2,by rw[hg,Zl _ _ hne];exact h3⟩
 | _=>exact h
theorem Frame.trans {w0 w w':World} {F0:List Nat} {O:Nat→Prop} (h:Frame w0 F0 w) (hO:∀k,O k→w0.heap.size≤k∨k∈F0) (h1:w'.os=w.os) (h2:w'.tape=w.tape) (h3:w'.output=w.output) (h4:w.heap.size≤w'.heap.size)
  (h5:∀k,k<w.heap.size→¬O k→w'.heap[k]? =w.heap[k]?):Frame w0 F0 w':=
 ⟨h1.trans h.os,h2.trans h.tape,h3.trans h.output,Nat.le_trans h.size h4,fun k hk hF=>(h5 k (Nat.lt_of_lt_of_le hk h.size) (fun ho=>by rcases hO k ho with h | h;omega;exact hF h)).trans (h.block k hk hF)⟩
theorem Tch.kept {T0:TypeId→Nat→Prop} {E E':Env} {blk blk':Nat→Option Blk} {w w':World} (h:∀k,k<w.heap.size→¬Owned E blk k→w'.heap[k]? =w.heap[k]?) (hs:w.heap.size≤w'.heap.size)
  (ho:∀k,Owned E' blk' k→Owned E blk k∨w.heap.size≤k):Kept w (Tch T0 E blk w) w' (Tch T0 E' blk' w'):=
 fun _ k ⟨h1,h2,h3⟩=>⟨h k h2 h3,h1,Nat.lt_of_lt_of_le h2 hs,fun h'=>(ho k h').elim h3 (fun h=>by omega)⟩
theorem ZE {E:Env} {blk:Nat→Option Blk} {b:Nat} {k:Blk} (h:blk b=some k):feet E blk b=(if k.var then [E.base b] else [])++foot k.ty k.p k.x (E.g b):=by simp [feet,h]
theorem Zk {E:Env} {blk:Nat→Option Blk} {b:Nat} {k:Blk} (h:blk b=some k) {j:Nat} (hj:j∈foot k.ty k.p k.x (E.g b)):j∈feet E blk b:=by rw[ZE h];exact List.mem_append_right _ hj
theorem ZbD {E:Env} {blk:Nat→Option Blk} {b:Nat} {k:Blk} (h:blk b=some k) (hv:k.var=true):E.base b∈feet E blk b:=by rw[ZE h,if_pos hv];simp
theorem BlkOk.kept {E E':Env} {w w':World} {T T':TypeId→Nat→Prop} {b:Nat} {k:Blk} (h:BlkOk E w T b k) (hf:∀j,j∈(if k.var then [E.base b] else [])++foot k.ty k.p k.x (E.g b)→w'.heap[j]? =w.heap[j]?) (hk:Kept w T w' T')
  (hg:E'.g b=E.g b) (hb:E'.base b=E.base b):BlkOk E' w' T' b k:=
 ⟨by rw[hg];exact Holds.agree _ _ _ _ h.holds (fun j hj=>hf j (List.mem_append_right _ hj)) hk,
  fun hv=>by
   obtain ⟨e,he⟩:=h.var hv;rw[hg,hb];exact ⟨e,(hf _ (by rw[if_pos hv];simp)).trans he⟩⟩
section
variable {w0:World} {F0:List Nat} {T0:TypeId→Nat→Prop} {E:Env} {blk:Nat→Option Blk} {w:World}
theorem Mem.feet_lt (hm:Mem w0 F0 T0 E blk w) {b k:Nat} (h:k∈feet E blk b):k<w.heap.size:=(hm.own k ⟨b,h⟩).1
theorem Mem.notT (hm:Mem w0 F0 T0 E blk w) {b k:Nat} (h:k∈feet E blk b):∀e,¬Tch T0 E blk w e k:=fun _ ⟨_,_,h'⟩=>h' ⟨b,h⟩
theorem Mem.drop (hm:Mem w0 F0 T0 E blk w) (b:Nat):Mem w0 F0 T0 E (setB blk b none) w∧Kept w (Tch T0 E blk w) w (Tch T0 E (setB blk b none) w):=by
 have hfe:∀i,feet E (setB blk b none) i=if i=b then [] else feet E blk i:=fun i=>by
  unfold feet;by_cases e:i=b
  ·subst e;simp
  ·simp [Ze _ _ e,e]
 have ho:∀k,Owned E (setB blk b none) k→Owned E blk k:=fun k ⟨i,hi⟩=>by
  rw[hfe] at hi;split at hi
  ·cases hi
  ·exact ⟨i,hi⟩
 have hk:=Tch.kept (T0:=T0) (E:=E) (E':=E) (blk:=blk) (blk':=setB blk b none) (w:=w) (w':=w) (fun _ _ _=>rfl) (Xl _) (fun k h=> .inl (ho k h))
 refine ⟨⟨fun i k hi=> ?_,⟨fun i=> ?_,fun i j k hi hj=> ?_⟩,fun k h=>hm.own k (ho k h),hm.frame⟩,hk⟩
 ·by_cases e:i=b
  ·subst e;simp at hi
  ·rw[Ze _ _ e] at hi
   exact (hm.blks i k hi).kept (fun _ _=>rfl) hk rfl rfl
 ·rw[hfe];split
  ·simp
  ·exact hm.sep.nodup i
 ·rw[hfe] at hi hj
  split at hi
  ·cases hi
  ·split at hj
   ·cases hj
   ·exact hm.sep.apart i j k hi hj
theorem Mem.plain (hm:Mem w0 F0 T0 E blk w) (h:Nat) (hh:blk h=none) (t:Ty) (p:Perm) (x:t.den) (g:Gh) (hx:Holds w (Tch T0 E blk w) t p x g) (hf:foot t p x g=[]):
  Mem w0 F0 T0 ⟨setG E.g h g,E.base⟩ (setB blk h (some ⟨false,false,p,t,x⟩)) w∧Kept w (Tch T0 E blk w) w (Tch T0 ⟨setG E.g h g,E.base⟩ (setB blk h (some ⟨false,false,p,t,x⟩)) w):=by
 have hfe:∀i,feet ⟨setG E.g h g,E.base⟩ (setB blk h (some ⟨false,false,p,t,x⟩)) i=feet E blk i:=fun i=>by
  unfold feet;by_cases e:i=h
  ·subst e;simp [hh,hf]
  ·simp [Ze _ _ e,Zl _ _ e]
 have ho:∀k,Owned ⟨setG E.g h g,E.base⟩ (setB blk h (some ⟨false,false,p,t,x⟩)) k→Owned E blk k:=fun k ⟨i,hi⟩=>⟨i,by rwa [hfe] at hi⟩
 have hk:=Tch.kept (T0:=T0) (E:=E) (E':=⟨setG E.g h g,E.base⟩) (blk:=blk) (blk':=setB blk h (some ⟨false,false,p,t,x⟩)) (w:=w) (w':=w) (fun _ _ _=>rfl) (Xl _) (fun k h=> .inl (ho k h))
 refine ⟨⟨fun i k hi=> ?_,⟨fun i=> ?_,fun i j k hi hj=> ?_⟩,fun k h=>hm.own k (ho k h),hm.frame⟩,hk⟩
 ·by_cases e:i=h
  ·subst e
   simp at hi;subst hi;refine ⟨?_,by simp⟩;simp only[setG_same];exact Holds.agree _ _ _ _ hx (fun _ _=>rfl) hk
  ·rw[Ze _ _ e] at hi
   exact (hm.blks i k hi).kept (fun _ _=>rfl) hk (Zl _ _ e) rfl
 ·rw[hfe];exact hm.sep.nodup i
 ·rw[hfe] at hi hj;exact hm.sep.apart i j k hi hj
theorem Mem.rename (hm:Mem w0 F0 T0 E blk w) (b h:Nat) (k:Blk) (hb:blk b=some k) (hv:k.var=false) (hh:blk h=none):
  Mem w0 F0 T0 ⟨setG E.g h (E.g b),E.base⟩ (setB (setB blk b none) h (some ⟨false,false,k.p,k.ty,k.x⟩)) w∧
   Kept w (Tch T0 E blk w) w (Tch T0 ⟨setG E.g h (E.g b),E.base⟩ (setB (setB blk b none) h (some ⟨false,false,k.p,k.ty,k.x⟩)) w):=by
 have hbh:b≠h:=fun e=>by rw[e,hh] at hb;cases hb
 have hfe:∀i,feet ⟨setG E.g h (E.g b),E.base⟩ (setB (setB blk b none) h (some ⟨false,false,k.p,k.ty,k.x⟩)) i=if i=b then [] else if i=h then feet E blk b else feet E blk i:=fun i=>by
  unfold feet;by_cases e:i=h
  ·subst e;simp [hb,hv,Ne.symm hbh]
  ·by_cases e':i=b
   ·subst e';simp [Ze _ _ e]
   ·simp [Ze _ _ e,Ze _ _ e',Zl _ _ e,e,e']
 have ho:∀j,Owned ⟨setG E.g h (E.g b),E.base⟩ (setB (setB blk b none) h (some ⟨false,false,k.p,k.ty,k.x⟩)) j→Owned E blk j:=fun j ⟨i,hi⟩=>by
  rw[hfe] at hi;split at hi
  ·cases hi
  ·split at hi
   ·exact ⟨b,hi⟩
   ·exact ⟨i,hi⟩
 have hk:=Tch.kept (T0:=T0) (E:=E) (E':=⟨setG E.g h (E.g b),E.base⟩) (blk:=blk) (blk':=setB (setB blk b none) h (some ⟨false,false,k.p,k.ty,k.x⟩)) (w:=w) (w':=w) (fun _ _ _=>rfl) (Xl _) (fun k h=> .inl (ho k h))
 refine ⟨⟨fun i k' hi=> ?_,⟨fun i=> ?_,fun i j m hi hj=> ?_⟩,fun k h=>hm.own k (ho k h),hm.frame⟩,hk⟩
 ·by_cases e:i=h
  ·subst e
   simp at hi;subst hi;refine ⟨?_,by simp⟩;simp only[setG_same];exact Holds.agree _ _ _ _ (hm.blks b k hb).holds (fun _ _=>rfl) hk
  ·rw[Ze _ _ e] at hi
   by_cases e':i=b
   ·subst e';simp at hi
   ·rw[Ze _ _ e'] at hi
    exact (hm.blks i k' hi).kept (fun _ _=>rfl) hk (Zl _ _ e) rfl
 ·rw[hfe];split
  ·simp
  ·split<;>exact hm.sep.nodup _
 ·rw[hfe] at hi hj
  split at hi
  ·cases hi
  ·rename_i hib
   split at hj
   ·cases hj
   ·rename_i hjb
    split at hi
    ·rename_i hih
     split at hj
     ·rename_i hjh;exact hih.trans hjh.symm
     ·exact absurd (hm.sep.apart b j m hi hj) (fun e=>hjb e.symm)
    ·split at hj
     ·exact absurd (hm.sep.apart i b m hi hj) hib
     ·exact hm.sep.apart i j m hi hj
end
end
end Go.Rx
namespace Go.Rx
noncomputable section
open Go.RowKit
theorem Zdz {w w':World} {T T':TypeId→Nat→Prop} (hk:Kept w T w' T'):∀(t:Ty) (p:Perm) (x:t.den) (g:Gh) (s:Path) (y:Sub) (q:Perm) (z:y.ty.den) (gz:Gh) (r:Perm×t.den),
  Holds w T t p x g→inR t x s→sub t p x s=some y→put t p x s y.ty q z=some r→(foot t p x g).Nodup→
  (∀k,k∈foot t p x g→k∉foot y.ty y.p y.x (ghAt t g s)→w'.heap[k]? =w.heap[k]?)→Holds w' T' y.ty q z gz→cells y.ty z gz=cells y.ty y.x (ghAt t g s)→
  Holds w' T' t r.1 r.2 (ghSet t g s gz)∧cells t r.2 (ghSet t g s gz)=cells t x g∧∃L R,foot t p x g=L++foot y.ty y.p y.x (ghAt t g s)++R∧foot t r.1 r.2 (ghSet t g s gz)=L++foot y.ty q z gz++R
 | t,p,x,g,[],y,q,z,gz,r,_,_,hs,hp,_,_,hz,hc=>by
  have:y=⟨t,p,x⟩:=by cases t<;>cases p<;>simpa [sub,eq_comm] using hs
  subst this;obtain ⟨_,rfl⟩:=Zfz hp;have h2:ghAt t g []=g:=by cases t<;>rfl
  have h3:ghSet t g [] gz=gz:=by cases t<;>rfl
  rw[h2] at hc;rw[h2,h3];exact ⟨hz,hc,[],[],by simp,by simp [castTo]⟩
 | .prod ta tb,p,x,g, .fst::s,y,q,z,gz,r,h,hr,hs,hp,hnd,hag,hz,hc=>by
  simp only[Holds] at h;simp only[inR] at hr;simp only[sub] at hs;simp only[put,Option.map_eq_some_iff] at hp;obtain ⟨z',hp,rfl⟩:=hp;simp only[foot] at hnd hag;simp only[ghAt] at hag hc;obtain ⟨h1,h2,L,R,h4,h5⟩:=Zdz hk ta p.l x.1 g.l s y q z gz z' h.1 hr hs hp (List.nodup_append.1 hnd).1 (fun k hk=>hag k (List.mem_append_left _ hk)) hz hc
  refine ⟨?_, ?_,L,R++foot tb p.r x.2 g.r, ?_, ?_⟩
  ·simp only[Holds,ghSet,Gh.pr_l,Gh.pr_r,Perm.mk_l,Perm.mk_r]
   refine ⟨h1,Holds.agree tb _ _ _ h.2 (fun k hk=>hag k (List.mem_append_right _ hk) (fun hk'=> ?_)) hk⟩;exact Z6 hnd (by rw[h4];simp [hk']) hk
  ·simp only[cells,ghSet,Gh.pr_l,Gh.pr_r,h2]
  ·simp only[foot,ghAt];rw[h4];simp [List.append_assoc]
  ·simp only[foot,ghSet,Gh.pr_l,Gh.pr_r,Perm.mk_l,Perm.mk_r];rw[h5];simp [List.append_assoc]
 | .prod ta tb,p,x,g, .snd::s,y,q,z,gz,r,h,hr,hs,hp,hnd,hag,hz,hc=>by
  simp only[Holds] at h;simp only[inR] at hr;simp only[sub] at hs;simp only[put,Option.map_eq_some_iff] at hp;obtain ⟨z',hp,rfl⟩:=hp;simp only[foot] at hnd hag;simp only[ghAt] at hag hc;obtain ⟨h1,h2,L,R,h4,h5⟩:=Zdz hk tb p.r x.2 g.r s y q z gz z' h.2 hr hs hp (List.nodup_append.1 hnd).2.1 (fun k hk=>hag k (List.mem_append_right _ hk)) hz hc
  refine ⟨?_, ?_,foot ta p.l x.1 g.l++L,R, ?_, ?_⟩
  ·simp only[Holds,ghSet,Gh.pr_l,Gh.pr_r,Perm.mk_l,Perm.mk_r]
   refine ⟨Holds.agree ta _ _ _ h.1 (fun k hk=>hag k (List.mem_append_left _ hk) (fun hk'=> ?_)) hk,h1⟩;exact not_mem_of_nodup_append' hnd (by rw[h4];simp [hk']) hk
  ·simp only[cells,ghSet,Gh.pr_l,Gh.pr_r,h2]
  ·simp only[foot,ghAt];rw[h4];simp [List.append_assoc]
  ·simp only[foot,ghSet,Gh.pr_l,Gh.pr_r,Perm.mk_l,Perm.mk_r];rw[h5];simp [List.append_assoc]
 | .arr n t,p,xs,g, .idx i::s,y,q,z,gz,r,h,hr,hs,hp,hnd,hag,hz,hc=>by
  simp only[Holds] at h;simp only[inR] at hr;simp only[sub] at hs;simp only[put,Option.bind_eq_some_iff] at hp;obtain ⟨z',hp,hp2⟩:=hp;split at hp2
  case isFalse=>cases hp2
  rename_i hro;cases hp2;simp only[ghAt] at hc;obtain ⟨h1,h2,L,R,h4,h5⟩:=Zdz hk t .ro (xs.getD i t.dflt) (g.at i) s y q z gz z' (h.2 i hr.1.1) hr.2 hs hp (by simp [foot_ro]) (by simp [foot_ro]) hz hc;rw[foot_ro] at h4;rw[hro,foot_ro] at h5;have hgh:∀j,j≠i→(ghSet (.arr n t) g (.idx i::s) gz).at j=g.at j:=fun j hne=>by simp [ghSet,Gh.at,hne]
  have hghi:(ghSet (.arr n t) g (.idx i::s) gz).at i=ghSet t (g.at i) s gz:=by simp [ghSet,Gh.at]
  refine ⟨?_, ?_,[],[], ?_, ?_⟩
  ·simp only[Holds]
   refine ⟨by rw[List.length_set];exact h.1,fun j hj=> ?_⟩
   rw[ZH _ _ _ _ _ hr.1.2];by_cases e:j=i
   ·subst e;rw[if_pos rfl,hghi];rw[←hro];exact h1
   ·rw[if_neg e,hgh j e]
    exact (h.2 j hj).kept hk
  ·simp only[cells]
   refine Za8 fun j hj=> ?_
   rw[ZH _ _ _ _ _ hr.1.2];by_cases e:j=i
   ·subst e;rw[if_pos rfl,hghi];exact h2
   ·rw[if_neg e,hgh j e]
  ·simp only[ghAt]
   simp at h4;simp [foot,h4]
  ·simp at h5;simp [foot,h5]
 | .slice e t, .own o,xs,g, .idx i::s,y,q,z,gz,r,h,hr,hs,hp,hnd,hag,hz,hc=>by
  simp only[Holds] at h;simp only[inR] at hr;simp only[sub] at hs;simp only[put,Option.bind_eq_some_iff] at hp;obtain ⟨z',hp,hp2⟩:=hp;split at hp2
  case isFalse=>cases hp2
  rename_i hro;cases hp2;simp only[foot] at hnd hag;simp only[ghAt] at hc hag;have hndc:=(List.nodup_append.1 hnd).2.1;obtain ⟨h1,h2,L,R,h4,h5⟩:=Zdz hk t o (xs.getD i t.dflt) (g.at i) s y q z gz z' (h.2 i hr.1) hr.2 hs hp (ZaU hndc i hr.1) (fun k hk=>hag k (List.mem_append_right _ (Zw.2 ⟨i,hr.1,hk⟩))) hz hc
  have hin:∀k,k∈foot y.ty y.p y.x (ghAt t (g.at i) s)→k∈foot t o (xs.getD i t.dflt) (g.at i):=fun k hk=>by rw[h4];simp [hk]
  have hgh:∀j,j≠i→(ghSet (.slice e t) g (.idx i::s) gz).at j=g.at j:=fun j hne=>by simp [ghSet,Gh.at,hne]
  have hghi:(ghSet (.slice e t) g (.idx i::s) gz).at i=ghSet t (g.at i) s gz:=by simp [ghSet,Gh.at]
  have hhead:(ghSet (.slice e t) g (.idx i::s) gz).head=g.head:=by simp [ghSet,Gh.head]
  have hcat:catN (fun j=>cells t ((xs.set i z'.2).getD j t.dflt) ((ghSet (.slice e t) g (.idx i::s) gz).at j)) xs.length=catN (fun j=>cells t (xs.getD j t.dflt) (g.at j)) xs.length:=
   Za8 fun j hj=>by
    rw[ZH _ _ _ _ _ hr.1];by_cases e:j=i
    ·subst e;rw[if_pos rfl,hghi];exact h2
    ·rw[if_neg e,hgh j e]
  refine ⟨?_,by simp only[cells,hhead], ?_⟩
  ·simp only[Holds]
   rw[hhead,List.length_set,hcat];refine ⟨ZcC h.1 (fun k hk'=>hag k (List.mem_append_left _ (by simp [hk'])) (fun hk2=> ?_)),fun j hj=> ?_⟩
   ·exact Z6 hnd (by simp [hk']:k∈g.head.ownBlock.toList) (Zw.2 ⟨i,hr.1,hin k hk2⟩)
   ·rw[ZH _ _ _ _ _ hr.1]
    by_cases ej:j=i
    ·subst ej;rw[if_pos rfl,hghi];rw[←hro];exact h1
    ·rw[if_neg ej,hgh j ej]
     exact Holds.agree t _ _ _ (h.2 j hj) (fun k hk'=>hag k (List.mem_append_right _ (Zw.2 ⟨j,hj,hk'⟩)) (fun hk2=>Zbt hndc i j hr.1 hj (fun h=>ej h.symm) k (hin k hk2) hk')) hk
  ·obtain ⟨A,B,hAB⟩:=Zdw hr.1 (fun j=>foot t o (xs.getD j t.dflt) (g.at j))
   refine ⟨g.head.ownBlock.toList++(A++L),R++B, ?_, ?_⟩
   ·simp only[foot,ghAt]
    rw[hAB _ (fun _ _ _=>rfl),h4];simp [List.append_assoc]
   ·simp only[foot]
    rw[hhead,List.length_set,hAB (fun j=>foot t o ((xs.set i z'.2).getD j t.dflt) ((ghSet (.slice e t) g (.idx i::s) gz).at j)) (fun j hj hne=>by
     rw[ZH _ _ _ _ _ hr.1,if_neg hne,hgh j hne])]
    rw[ZH _ _ _ _ _ hr.1,if_pos rfl,hghi];rw[show foot t o z'.2 (ghSet t (g.at i) s gz)=foot t z'.1 z'.2 (ghSet t (g.at i) s gz) by rw[hro],h5];simp [List.append_assoc]
 | .int _,_,_,_,_::_,_,_,_,_,_,_,_,hs,_,_,_,_,_ | .bool,_,_,_,_::_,_,_,_,_,_,_,_,hs,_,_,_,_,_=>by simp [sub] at hs
 | .str,_,_,_,_::_,_,_,_,_,_,_,_,hs,_,_,_,_,_ | .err,_,_,_,_::_,_,_,_,_,_,_,_,hs,_,_,_,_,_=>by simp [sub] at hs
 | .prod _ _,_,_,_, .idx _::_,_,_,_,_,_,_,_,hs,_,_,_,_,_=>by simp [sub] at hs
 | .arr _ _,_,_,_, .fst::_,_,_,_,_,_,_,_,hs,_,_,_,_,_ | .arr _ _,_,_,_, .snd::_,_,_,_,_,_,_,_,hs,_,_,_,_,_=>by simp [sub] at hs
 | .slice _ _, .own _,_,_, .fst::_,_,_,_,_,_,_,_,hs,_,_,_,_,_ | .slice _ _, .own _,_,_, .snd::_,_,_,_,_,_,_,_,hs,_,_,_,_,_ | .slice _ _, .hole _ _,_,_, .fst::_,_,_,_,_,_,_,_,hs,_,_,_,_,_ | .slice _ _, .hole _ _,_,_, .snd::_,_,_,_,_,_,_,_,hs,_,_,_,_,_=>by simp [sub] at hs
 | .slice _ _, .ro,_,_,_::_,_,_,_,_,_,_,_,hs,_,_,_,_,_ | .slice _ _, .dead,_,_,_::_,_,_,_,_,_,_,_,hs,_,_,_,_,_ | .slice _ _, .pr _ _,_,_,_::_,_,_,_,_,_,_,_,hs,_,_,_,_,_=>by simp [sub] at hs
theorem Ze8 {w:World} {T:TypeId→Nat→Prop}:∀(t:Ty) (p:Perm) (x:t.den) (g:Gh) (s:Path) (y:Sub) (q:Perm) (z:y.ty.den) (gz:Gh) (r:Perm×t.den),
  Holds w T t p x g→hasIdx s=false→sub t p x s=some y→put t p x s y.ty q z=some r→Holds w T y.ty q z gz→
  Holds w T t r.1 r.2 (ghSet t g s gz)∧∃L R,foot t p x g=L++foot y.ty y.p y.x (ghAt t g s)++R∧foot t r.1 r.2 (ghSet t g s gz)=L++foot y.ty q z gz++R
 | t,p,x,g,[],y,q,z,gz,r,_,_,hs,hp,hz=>by
  have:y=⟨t,p,x⟩:=by cases t<;>cases p<;>simpa [sub,eq_comm] using hs
  subst this;obtain ⟨_,rfl⟩:=Zfz hp;have h2:ghAt t g []=g:=by cases t<;>rfl
  have h3:ghSet t g [] gz=gz:=by cases t<;>rfl
  rw[h2,h3];exact ⟨hz,[],[],by simp,by simp [castTo]⟩
 | .prod ta tb,p,x,g, .fst::s,y,q,z,gz,r,h,hi,hs,hp,hz=>by
  simp only[Holds] at h;simp only[hasIdx] at hi;simp only[sub] at hs;simp only[put,Option.map_eq_some_iff] at hp;obtain ⟨z',hp,rfl⟩:=hp;obtain ⟨h1,L,R,h4,h5⟩:=Ze8 ta p.l x.1 g.l s y q z gz z' h.1 hi hs hp hz;refine ⟨by simp only[Holds,ghSet,Gh.pr_l,Gh.pr_r,Perm.mk_l,Perm.mk_r];exact ⟨h1,h.2⟩,L,R++foot tb p.r x.2 g.r, ?_, ?_⟩
  ·simp only[foot,ghAt];rw[h4];simp [List.append_assoc]
  ·simp only[foot,ghSet,Gh.pr_l,Gh.pr_r,Perm.mk_l,Perm.mk_r];rw[h5];simp [List.append_assoc]
 | .prod ta tb,p,x,g, .snd::s,y,q,z,gz,r,h,hi,hs,hp,hz=>by
  simp only[Holds] at h;simp only[hasIdx] at hi;simp only[sub] at hs;simp only[put,Option.map_eq_some_iff] at hp;obtain ⟨z',hp,rfl⟩:=hp;obtain ⟨h1,L,R,h4,h5⟩:=Ze8 tb p.r x.2 g.r s y q z gz z' h.2 hi hs hp hz;refine ⟨by simp only[Holds,ghSet,Gh.pr_l,Gh.pr_r,Perm.mk_l,Perm.mk_r];exact ⟨h.1,h1⟩,foot ta p.l x.1 g.l++L,R, ?_, ?_⟩
  ·simp only[foot,ghAt];rw[h4];simp [List.append_assoc]
  ·simp only[foot,ghSet,Gh.pr_l,Gh.pr_r,Perm.mk_l,Perm.mk_r];rw[h5];simp [List.append_assoc]
 | t,_,_,_, .idx _::_,_,_,_,_,_,_,hi,_,_,_=>by simp [hasIdx] at hi
 | .int _,_,_,_, .fst::_,_,_,_,_,_,_,_,hs,_,_ | .bool,_,_,_, .fst::_,_,_,_,_,_,_,_,hs,_,_ | .str,_,_,_, .fst::_,_,_,_,_,_,_,_,hs,_,_ | .err,_,_,_, .fst::_,_,_,_,_,_,_,_,hs,_,_=>by simp [sub] at hs
 | .int _,_,_,_, .snd::_,_,_,_,_,_,_,_,hs,_,_ | .bool,_,_,_, .snd::_,_,_,_,_,_,_,_,hs,_,_ | .str,_,_,_, .snd::_,_,_,_,_,_,_,_,hs,_,_ | .err,_,_,_, .snd::_,_,_,_,_,_,_,_,hs,_,_=>by simp [sub] at hs
 | .arr _ _,_,_,_, .fst::_,_,_,_,_,_,_,_,hs,_,_ | .arr _ _,_,_,_, .snd::_,_,_,_,_,_,_,_,hs,_,_=>by simp [sub] at hs
 | .slice _ _,p,_,_, .fst::_,_,_,_,_,_,_,_,hs,_,_ | .slice _ _,p,_,_, .snd::_,_,_,_,_,_,_,_,hs,_,_=>by cases p<;>simp [sub] at hs
theorem Zba:∀(t:Ty) (p:Perm) (x:t.den) (s:Path) (y:Sub),hasIdx s=false→sub t p x s=some y→inR t x s:=fun t p x s y hi hs=>
 let ⟨_,_,_,h,_⟩:=Zcn t p p x x s y .leaf .leaf default hi hs
 h
theorem Zb4 {w:World} {t:Ty} {e:TypeId} {s:Nat} {v:Value} {n:Nat} {xs:List Value} (h:OwnR w t e s v n xs):∃A cap,v= .slice A n cap:=by
 rcases h.2 with ⟨rfl,rfl⟩ | ⟨g,cap,cur,rfl,_⟩
 ·exact ⟨none,0,rfl⟩
 ·exact ⟨_,_,rfl⟩
theorem Ze9 {w:World} {T:TypeId→Nat→Prop}:∀(t:Ty) (p:Perm) (x:t.den) (g:Gh),Holds w T t p x g→Holds w T t (gone t p) x g∧foot t (gone t p) x g=[]
 | .int _,_,_,_,_ | .bool,_,_,_,_ | .str,_,_,_,_=>by simp [Holds,foot]
 | .err,_,_,_,h=>by simpa [Holds,foot] using h
 | .prod a b,p,x,g,h=>by
  simp only[Holds] at h;have h1:=Ze9 a _ _ _ h.1;have h2:=Ze9 b _ _ _ h.2;simp only[Holds,foot,gone,Perm.mk_l,Perm.mk_r];exact ⟨⟨h1.1,h2.1⟩,by rw[h1.2,h2.2];rfl⟩
 | .arr n t,p,xs,g,h=>by simp only[Holds] at h ⊢;exact ⟨h,by simp [foot]⟩
 | .slice e t, .ro,xs,g,h=>⟨h,by simp [foot,gone]⟩
 | .slice e t, .dead,xs,g,h=>⟨h,by simp [foot,gone]⟩
 | .slice e t, .pr _ _,xs,g,h=>by simp [Holds] at h
 | .slice e t, .own q,xs,g,h=>by
  simp only[Holds] at h;obtain ⟨A,cap,hh⟩:=Zb4 h.1;exact ⟨by simp only[gone,Holds];exact ⟨A,_,cap,hh⟩,by simp [foot,gone]⟩
 | .slice e t, .hole z0 q,xs,g,h=>by
  simp only[Holds] at h;obtain ⟨A,cap,hh⟩:=Zb4 h.1;exact ⟨by simp only[gone,Holds];exact ⟨A,_,cap,hh⟩,by simp [foot,gone]⟩
theorem Zax {w:World} {T T':TypeId→Nat→Prop} (hT:∀e k,T e k→T' e k):∀(t:Ty) (p:Perm) (x:t.den) (g:Gh),Holds w T t p x g→p.noDead=true→(∀e,e∈rowTys t→∀k,k∈foot t p x g→T' e k)→Holds w T' t .ro x g
 | .int _,_,_,_,_,_,_ | .bool,_,_,_,_,_,_ | .str,_,_,_,_,_,_=>by simp [Holds]
 | .err,_,_,_,h,_,_=>by simpa [Holds] using h
 | .prod a b,p,x,g,h,hd,hf=>by
  simp only[Holds] at h ⊢;simp only[foot,rowTys,List.mem_append] at hf;have d1:p.l.noDead=true:=by cases p<;>simp_all [Perm.noDead,Perm.l]
  have d2:p.r.noDead=true:=by cases p<;>simp_all [Perm.noDead,Perm.r]
  exact ⟨Zax hT a _ _ _ h.1 d1 (fun e he k hk=>hf e (.inl he) k (.inl hk)),Zax hT b _ _ _ h.2 d2 (fun e he k hk=>hf e (.inr he) k (.inr hk))⟩
 | .arr n t,p,xs,g,h,_,_=>by
  simp only[Holds] at h ⊢;exact ⟨h.1,fun i hi=>Holds.agree t _ _ _ (h.2 i hi) (by simp [foot_ro]) (fun i k hk=>⟨rfl,hT i k hk⟩)⟩
 | .slice e t, .ro,xs,g,h,_,_=>Holds.agree (.slice e t) .ro _ _ h (by simp [foot]) (fun i k hk=>⟨rfl,hT i k hk⟩)
 | .slice e t, .dead,xs,g,_,hd,_=>by simp [Perm.noDead] at hd
 | .slice e t, .pr _ _,xs,g,h,_,_=>by simp [Holds] at h
 | .slice e t, .own q,xs,g,h,hd,hf=>by
  simp only[Holds] at h ⊢;simp only[Perm.noDead] at hd;simp only[foot,rowTys,List.mem_append,List.mem_cons] at hf;refine ⟨?_,fun i hi=>Zax hT t _ _ _ (h.2 i hi) hd (fun e he k hk=>hf e (.inr he) k (.inr (Zw.2 ⟨i,hi,hk⟩)))⟩;by_cases h0:0<xs.length
  ·obtain ⟨k,cap,cur,hv,hb,_,hh,hc,_,_,hx⟩:=ZS h.1 h0
   exact ⟨some ⟨k,0,none⟩,cap,hv,hc,by simp,by simp,fun _=>⟨_,rfl,hf e (.inl rfl) k (.inl (by simp [hb]))⟩,fun a ha=>by cases ha;exact hx⟩
  ·have hx:xs=[]:=List.eq_nil_of_length_eq_zero (by omega)
   subst hx;rcases h.1.2 with ⟨hv,_⟩ | ⟨g',cap,cur,hv,_,hc,_⟩
   ·exact ⟨none,0,hv,by simp,by simp,by simp,by simp,by simp⟩
   ·exact ⟨_,cap,hv,by simp,by simp,by simp,by simp,fun a _ j u hj=>by simp [catN] at hj⟩
 | .slice e t, .hole _ _,xs,g,_,hd,_=>by simp [Perm.noDead] at hd
theorem Zda:∀(p:Perm),p.plain=true→p.noDead=true
 | .ro,_=>rfl
 | .dead,h | .own _,h=>by simp [Perm.plain] at h
 | .pr a b,h=>by simp only[Perm.plain,Xh] at h;simp [Perm.noDead,Zda a h.1,Zda b h.2]
theorem ZdA:∀(t:Ty) (p:Perm) (x:t.den) (g:Gh),p.plain=true→foot t p x g=[]
 | .int _,_,_,_,_ | .bool,_,_,_,_ | .str,_,_,_,_ | .err,_,_,_,_ | .arr _ _,_,_,_,_=>by simp [foot]
 | .prod a b,p,x,g,h=>by
  have d1:p.l.plain=true:=by cases p<;>simp_all [Perm.plain,Perm.l]
  have d2:p.r.plain=true:=by cases p<;>simp_all [Perm.plain,Perm.r]
  simp [foot,ZdA a _ _ _ d1,ZdA b _ _ _ d2]
 | .slice _ _, .ro,_,_,_ | .slice _ _, .dead,_,_,_ | .slice _ _, .pr _ _,_,_,_=>by simp [foot]
 | .slice _ _, .own _,_,_,h=>by simp [Perm.plain] at h
theorem Zgr {w:World} {T:TypeId→Nat→Prop} {t:Ty} {p:Perm} {x:t.den} {g:Gh} (h:Holds w T t p x g) (hp:p.plain=true):Holds w T t .ro x g:=
 Zax (fun _ _ h=>h) t p x g h (Zda p hp) (by simp [ZdA t p x g hp])
section
variable {w0:World} {F0:List Nat} {T0:TypeId→Nat→Prop} {E:Env} {blk:Nat→Option Blk} {w:World}
end
end
end Go.Rx
namespace Go.Rx
noncomputable section
open Go.RowKit
section
variable {w0:World} {F0:List Nat} {T0:TypeId→Nat→Prop} {E:Env} {blk:Nat→Option Blk} {w:World}
theorem Mem.redo {w':World} {E':Env} {blk':Nat→Option Blk} (D:Nat→Prop) (hm:Mem w0 F0 T0 E blk w)
  (hun:∀i,¬D i→blk' i=blk i∧E'.g i=E.g i∧E'.base i=E.base i)
  (hin:∀i,D i→∀j,j∈feet E' blk' i→(∃i',D i'∧j∈feet E blk i')∨(w.heap.size≤j∧j<w'.heap.size))
  (hnd:∀i,D i→(feet E' blk' i).Nodup) (hap:∀i i' j,D i→D i'→j∈feet E' blk' i→j∈feet E' blk' i'→i=i')
  (h1:w'.os=w.os) (h2:w'.tape=w.tape) (h3:w'.output=w.output) (h4:w.heap.size≤w'.heap.size)
  (h5:∀j,j<w.heap.size→(∀i,D i→j∉feet E blk i)→w'.heap[j]? =w.heap[j]?)
  (hok:Kept w (Tch T0 E blk w) w' (Tch T0 E' blk' w')→∀i k,D i→blk' i=some k→BlkOk E' w' (Tch T0 E' blk' w') i k):
  Mem w0 F0 T0 E' blk' w'∧Kept w (Tch T0 E blk w) w' (Tch T0 E' blk' w'):=by
 have hfe:∀i,¬D i→feet E' blk' i=feet E blk i:=fun i e=>by
  obtain ⟨a,b,c⟩:=hun i e;unfold feet;simp only[a,b,c]
 have ho:∀j,Owned E' blk' j→Owned E blk j∨(w.heap.size≤j∧j<w'.heap.size):=fun j ⟨i,hi⟩=>by
  by_cases e:D i
  ·exact (hin i e j hi).imp (fun ⟨i',_,h⟩=>⟨i',h⟩) id
  ·rw[hfe i e] at hi;exact .inl ⟨i,hi⟩
 have hfr:∀j,j<w.heap.size→¬Owned E blk j→w'.heap[j]? =w.heap[j]? :=fun j hj hn=>h5 j hj (fun i _ h=>hn ⟨i,h⟩)
 have hk:=Tch.kept (T0:=T0) hfr h4 (fun j h=>(ho j h).imp id And.left)
 refine ⟨⟨fun i k hi=> ?_,⟨fun i=> ?_,fun i j m hi hj=> ?_⟩,fun j h=> ?_,hm.frame.trans (fun j hj=>(hm.own j hj).2) h1 h2 h3 h4 hfr⟩,hk⟩
 ·by_cases e:D i
  ·exact hok hk i k e hi
  ·obtain ⟨a,b,c⟩:=hun i e
   rw[a] at hi;refine (hm.blks i k hi).kept (fun j hj=> ?_) hk b c;have hji:j∈feet E blk i:=by rw[ZE hi];exact hj
   exact h5 j (hm.feet_lt hji) (fun i' hd hjb=>e (hm.sep.apart i i' j hji hjb▸hd))
 ·by_cases e:D i
  ·exact hnd i e
  ·rw[hfe i e];exact hm.sep.nodup i
 ·by_cases ei:D i
  ·by_cases ej:D j
   ·exact hap i j m ei ej hi hj
   ·rw[hfe j ej] at hj
    rcases hin i ei m hi with ⟨i',hd,h⟩ | h
    ·exact absurd (hm.sep.apart i' j m h hj▸hd) ej
    ·have:=hm.feet_lt hj;omega
  ·rw[hfe i ei] at hi
   by_cases ej:D j
   ·rcases hin j ej m hj with ⟨i',hd,h⟩ | h
    ·exact absurd (hm.sep.apart i i' m hi h▸hd) ei
    ·have:=hm.feet_lt hi;omega
   ·rw[hfe j ej] at hj
    exact hm.sep.apart i j m hi hj
 ·rcases ho j h with h' | h'
  ·exact ⟨Nat.lt_of_lt_of_le (hm.own j h').1 h4,(hm.own j h').2⟩
  ·exact ⟨h'.2, .inl (Nat.le_trans hm.frame.size h'.1)⟩
theorem ZkW:∀(n:Nat) (t:Ty) (x x':t.den) (g g':Gh),cells t x g=cells t x' g'→comps n t x g=comps n t x' g'
 | 0,_,_,_,_,_,_=>by simp [comps]
 | 1,_,_,_,_,_,h=>by simp only[comps,h]
 | n+2, .prod a b,x,x',g,g',h=>by
  simp only[cells] at h;obtain ⟨h1,h2⟩:=List.append_inj h (by rw[Za,Za]);simp only[comps,h1,ZkW (n+1) b x.2 x'.2 g.r g'.r h2]
 | _+2, .int _,_,_,_,_,_ | _+2, .bool,_,_,_,_,_ | _+2, .str,_,_,_,_,_ | _+2, .err,_,_,_,_,_ | _+2, .slice _ _,_,_,_,_,_ | _+2, .arr _ _,_,_,_,_,_=>rfl
theorem Mem.takeAt (hm:Mem w0 F0 T0 E blk w) {b h:Nat} {k:Blk} {s:Path} {y:Sub} {r:Perm×k.ty.den} (hb:blk b=some k) (hh:blk h=none) (hs:sub k.ty k.p k.x s=some y) (hr:inR k.ty k.x s)
  (hp:put k.ty k.p k.x s y.ty (gone y.ty y.p) y.x=some r):
  ∃E',Mem w0 F0 T0 E' (setB (setB blk b (some ⟨k.var,k.pin,r.1,k.ty,r.2⟩)) h (some ⟨false,false,y.p,y.ty,y.x⟩)) w∧
   Carries [.gone b k.ty s] E w (Tch T0 E blk w) blk E' w (Tch T0 E' (setB (setB blk b (some ⟨k.var,k.pin,r.1,k.ty,r.2⟩)) h (some ⟨false,false,y.p,y.ty,y.x⟩)) w) (setB (setB blk b (some ⟨k.var,k.pin,r.1,k.ty,r.2⟩)) h (some ⟨false,false,y.p,y.ty,y.x⟩))∧
   E'.g h=ghAt k.ty (E.g b) s∧E'.base=E.base∧(∀i,i≠b→i≠h→E'.g i=E.g i)∧(cells k.ty r.2 (E'.g b)=cells k.ty k.x (E.g b))∧Kept w (Tch T0 E blk w) w (Tch T0 E' (setB (setB blk b (some ⟨k.var,k.pin,r.1,k.ty,r.2⟩)) h (some ⟨false,false,y.p,y.ty,y.x⟩)) w):=by
 have hbh:b≠h:=fun e=>by rw[e,hh] at hb;cases hb
 have hbk:=hm.blks b k hb;have hnd:(foot k.ty k.p k.x (E.g b)).Nodup:=by have:=hm.sep.nodup b;rw[ZE hb] at this;exact (List.nodup_append.1 this).2.1
 have hy:=ZD _ _ _ _ _ _ hbk.holds hr hs;obtain ⟨hg1,hg2⟩:=Ze9 _ _ _ _ hy;obtain ⟨p1,p2,L,R,p3,p4⟩:=Zdz (Kept.refl w _) k.ty k.p k.x (E.g b) s y (gone y.ty y.p) y.x (ghAt k.ty (E.g b) s) r hbk.holds hr hs hp hnd (fun _ _ _=>rfl) hg1 rfl;rw[hg2,List.append_nil] at p4
 let E1:Env:=⟨setG E.g b (ghSet k.ty (E.g b) s (ghAt k.ty (E.g b) s)),E.base⟩
 let E':Env:=⟨setG E1.g h (ghAt k.ty (E.g b) s),E.base⟩
 have eb:E'.g b=ghSet k.ty (E.g b) s (ghAt k.ty (E.g b) s):=by simp [E',E1,Zl _ _ hbh]
 have eh:E'.g h=ghAt k.ty (E.g b) s:=by simp [E']
 have hfb:feet E' (setB (setB blk b (some ⟨k.var,k.pin,r.1,k.ty,r.2⟩)) h (some ⟨false,false,y.p,y.ty,y.x⟩)) b=(if k.var then [E.base b] else [])++(L++R):=by
  unfold feet;rw[Ze _ _ hbh,setB_same];simp only[eb,p4];rfl
 have hfh:feet E' (setB (setB blk b (some ⟨k.var,k.pin,r.1,k.ty,r.2⟩)) h (some ⟨false,false,y.p,y.ty,y.x⟩)) h=foot y.ty y.p y.x (ghAt k.ty (E.g b) s):=by
  unfold feet;rw[setB_same];simp only[eh];simp
 have hfb0:feet E blk b=(if k.var then [E.base b] else [])++(L++foot y.ty y.p y.x (ghAt k.ty (E.g b) s)++R):=by rw[ZE hb,p3]
 have hndb:=hm.sep.nodup b;rw[hfb0] at hndb
 obtain ⟨hM,hK⟩:=hm.redo (w':=w) (E':=E') (blk':=setB (setB blk b (some ⟨k.var,k.pin,r.1,k.ty,r.2⟩)) h (some ⟨false,false,y.p,y.ty,y.x⟩)) (fun i=>i=b∨i=h)
  (fun i hi=>by
   have h1:i≠b:=fun e=>hi (.inl e)
   have h2:i≠h:=fun e=>hi (.inr e)
   exact ⟨by rw[Ze _ _ h2,Ze _ _ h1],by simp [E',E1,Zl _ _ h2,Zl _ _ h1],rfl⟩)
  (fun i hi j hj=> .inl ⟨b, .inl rfl,by
   rw[hfb0];rcases hi with rfl | rfl
   ·rw[hfb] at hj
    simp only[List.mem_append] at hj ⊢;rcases hj with hj | hj | hj<;>simp [hj]
   ·rw[hfh] at hj
    simp [hj]⟩)
  (fun i hi=>by
   rcases hi with rfl | rfl
   ·rw[hfb]
    refine hndb.sublist (List.Sublist.append_left ?_ _);rw[List.append_assoc];exact List.Sublist.append_left (List.sublist_append_right _ _) _
   ·rw[hfh]
    refine hndb.sublist ?_;refine (List.Sublist.trans ?_ (List.sublist_append_right _ _));rw[List.append_assoc];exact (List.sublist_append_left _ _).trans (List.sublist_append_right _ _))
  (by
   have key:∀j,j∈(if k.var then [E.base b] else [])++(L++R)→j∈foot y.ty y.p y.x (ghAt k.ty (E.g b) s)→False:=fun j h1 h2=>by
    have hn:=hndb;simp only[List.nodup_append,List.mem_append] at hn h1;obtain ⟨-,⟨⟨-,⟨-,a3⟩⟩, -,a5⟩,a6⟩:=hn;rcases h1 with h1 | h1 | h1
    ·exact a6 j h1 j (.inl (.inr h2)) rfl
    ·exact a3 j h1 j h2 rfl
    ·exact a5 j (.inr h2) j h1 rfl
   intro i i' j hi hi' hj hj';rcases hi with rfl | rfl<;>rcases hi' with rfl | rfl
   ·rfl
   ·rw[hfb] at hj;rw[hfh] at hj';exact (key j hj hj').elim
   ·rw[hfh] at hj;rw[hfb] at hj';exact (key j hj' hj).elim
   ·rfl)
  rfl rfl rfl (Xl _) (fun _ _ _=>rfl)
  (fun hK i k' hi hk'=>by
   rcases hi with rfl | rfl
   ·rw[Ze _ _ hbh,setB_same] at hk'
    cases hk';refine ⟨?_,fun hv=> ?_⟩
    ·show Holds _ _ _ _ _ (E'.g i)
     rw[eb];exact Holds.agree _ _ _ _ p1 (fun _ _=>rfl) hK
    ·show ∃e,w.heap[E.base i]? =some (.cells (cells k.ty r.2 (E'.g i)).toArray e (0,0))
     rw[eb,p2];exact hbk.var hv
   ·rw[setB_same] at hk'
    cases hk';refine ⟨?_,by simp⟩;show Holds _ _ _ _ _ (E'.g i);rw[eh];exact Holds.agree _ _ _ _ hy (fun _ _=>rfl) hK)
 refine ⟨E',hM, ?_,eh,rfl,fun i h1 h2=>by simp [E',E1,Zl _ _ h2,Zl _ _ h1],by rw[eb];exact p2,hK⟩
 have c1:=Zdy (E:=E) (E':=E1) (w:=w) (w':=w) (T:=Tch T0 E blk w) (T':=Tch T0 E blk w) (blk:=blk) (gz:=ghAt k.ty (E.g b) s) hb hs hr hp (Kept.refl _ _) rfl rfl;intro rg v hv;by_cases htup:∃c n,rg= .tup c n
 ·obtain ⟨c,n,rfl⟩:=htup
  obtain ⟨k',g1,g2,g3⟩:=hv;have hc:c≠h:=fun e=>by rw[e,hh] at g1;cases g1
  by_cases e:c=b
  ·subst e
   rw[hb] at g1;cases g1;refine ⟨⟨k.var,k.pin,r.1,k.ty,r.2⟩,by rw[Ze _ _ hbh,setB_same],g2, ?_⟩;rw[g3];show Value.tuple _=Value.tuple (comps n k.ty r.2 (E'.g c)).toArray;rw[ZkW n k.ty r.2 k.x (E'.g c) (E.g c) (by rw[eb];exact p2)]
  ·exact ⟨k',by rw[Ze _ _ hc,Ze _ _ e];exact g1,g2,by simpa [E',E1,Zl _ _ hc,Zl _ _ e] using g3⟩
 have hkk:killL [.gone b k.ty s] rg=killL [.at b k.ty s] rg:=by
  cases rg<;>first | rfl | exact absurd ⟨_,_,rfl⟩ htup
 rw[hkk];have h2:=c1 rg v hv
 revert h2
 generalize killL [.at b k.ty s] rg=rg';intro h2;have nh:setB blk b (some ⟨k.var,k.pin,r.1,k.ty,r.2⟩) h=none:=by rw[Ze _ _ (Ne.symm hbh)];exact hh
 cases rg' with
 | val t x=>exact h2.val_kept hK
 | rp t x=>exact h2.rp_kept hK
 | vw c q=>
  obtain ⟨k',z,g1,g2,g3,g4⟩:=h2;have hc:c≠h:=fun e=>by rw[e,nh] at g1;cases g1
  exact ⟨k',z,by rw[Ze _ _ hc];exact g1,g2,g3,by simpa [E',Zl _ _ hc] using g4⟩
 | sl c q lo n=>
  obtain ⟨k',e',u,o,xs,g1,g2,g3,g4,g5⟩:=h2;have hc:c≠h:=fun e=>by rw[e,nh] at g1;cases g1
  exact ⟨k',e',u,o,xs,by rw[Ze _ _ hc];exact g1,g2,g3,g4,by simpa [E',Zl _ _ hc] using g5⟩
 | ptr c q=>
  obtain ⟨k',z,g1,g2,g3,g4,g5⟩:=h2;have hc:c≠h:=fun e=>by rw[e,nh] at g1;cases g1
  exact ⟨k',z,by rw[Ze _ _ hc];exact g1,g2,g3,g4,by simpa [E',Zl _ _ hc] using g5⟩
 | tup c n=>
  obtain ⟨k',g1,g2,g3⟩:=h2;have hc:c≠h:=fun e=>by rw[e,nh] at g1;cases g1
  exact ⟨k',by rw[Ze _ _ hc];exact g1,g2,by simpa [E',Zl _ _ hc] using g3⟩
 | _=>exact h2
theorem Zac (hm:Mem w0 F0 T0 E blk w) {b:Nat} {k:Blk} (hb:blk b=some k):(foot k.ty k.p k.x (E.g b)).Nodup:=by
 have:=hm.sep.nodup b;rw[ZE hb] at this;exact (List.nodup_append.1 this).2.1
theorem Mem.boxHere (hm:Mem w0 F0 T0 E blk w) {h:Nat} {k:Blk} (hh:blk h=some k) (hv:k.var=false) (e:TypeId):
  ∃E',Mem w0 F0 T0 E' (setB blk h (some ⟨true,false,k.p,k.ty,k.x⟩)) (w.alloc (.cells (cells k.ty k.x (E.g h)).toArray e))∧
   Kept w (Tch T0 E blk w) (w.alloc (.cells (cells k.ty k.x (E.g h)).toArray e)) (Tch T0 E' (setB blk h (some ⟨true,false,k.p,k.ty,k.x⟩)) (w.alloc (.cells (cells k.ty k.x (E.g h)).toArray e)))∧
   E'.base h=w.heap.size∧E'.g=E.g∧(∀i,i≠h→E'.base i=E.base i):=by
 let E':Env:=⟨E.g,fun i=>if i=h then w.heap.size else E.base i⟩
 have hfd:feet E' (setB blk h (some ⟨true,false,k.p,k.ty,k.x⟩)) h=w.heap.size::foot k.ty k.p k.x (E.g h):=by
  unfold feet;rw[setB_same];simp [E']
 have hf0:feet E blk h=foot k.ty k.p k.x (E.g h):=by rw[ZE hh,hv];simp
 obtain ⟨hM,hK⟩:=hm.redo (w':=w.alloc (.cells (cells k.ty k.x (E.g h)).toArray e)) (E':=E') (blk':=setB blk h (some ⟨true,false,k.p,k.ty,k.x⟩)) (fun i=>i=h)
  (fun i hi=>⟨by rw[Ze _ _ hi],rfl,by simp [E',hi]⟩)
  (fun i hi j hj=>by
   subst hi;rw[hfd] at hj;rcases List.mem_cons.1 hj with rfl | hj
   ·exact .inr ⟨Xl _,by simp⟩
   ·exact .inl ⟨_,rfl,by rw[hf0];exact hj⟩)
  (fun i hi=>by
   subst hi;rw[hfd,List.nodup_cons];exact ⟨fun hin=>by have:=hm.feet_lt (b:=i) (by rw[hf0];exact hin);omega,Zac hm hh⟩)
  (fun i i' j hi hi' hj hj'=>by rw[hi,hi'])
  rfl rfl rfl (by simp) (fun j hj _=>heap_alloc_old w _ j hj)
  (fun hK i k' hi hk'=>by
   subst hi;rw[setB_same] at hk';cases hk';refine ⟨?_,fun _=>⟨e, ?_⟩⟩
   ·refine Holds.agree _ _ _ _ (hm.blks i k hh).holds (fun j hj=>heap_alloc_old w _ j (hm.feet_lt (b:=i) (by rw[hf0];exact hj))) hK
   ·show (w.alloc _).heap[E'.base i]? =some (.cells (cells k.ty k.x (E.g i)).toArray e (0,0))
    rw[show E'.base i=w.heap.size by simp [E']];exact heap_alloc_new w _)
 exact ⟨E',hM,hK,by simp [E'],rfl,fun i hi=>by simp [E',hi]⟩
theorem Zik {E E':Env} {w w':World} {T T':TypeId→Nat→Prop} {blk:Nat→Option Blk} {b:Nat} {k k':Blk} (hb:blk b=some k) {p:Perm} (hp:p=k.p) (hk':k'=⟨true,false,p,k.ty,k.x⟩) (hk:Kept w T w' T') (hg:E'.g=E.g) (hbase:∀i,i≠b→E'.base i=E.base i):
  Carries [.moved b] E w T blk E' w' T' (setB blk b (some k')):=by
 subst hp;subst hk';intro r v h;cases r with
 | val t x=>exact h.val_kept hk
 | rp t x=>exact h.rp_kept hk
 | vw c s=>
  simp only[killL,killR];obtain ⟨k0,y,h1,h2,h3,h4⟩:=h;by_cases e1:c=b
  ·subst e1
   rw[hb] at h1;cases h1;exact ⟨_,y,setB_same _ _ _,h2,h3,by rw[hg];exact h4⟩
  ·exact ⟨k0,y,by rw[Ze _ _ e1];exact h1,h2,h3,by rw[hg];exact h4⟩
 | sl c s lo n=>
  simp only[killL,killR];obtain ⟨k0,e0,u0,q0,xs0,h1,h2,h3,h4,h5⟩:=h;by_cases e1:c=b
  ·subst e1
   rw[hb] at h1;cases h1;exact ⟨_,e0,u0,q0,xs0,setB_same _ _ _,h2,h3,h4,by rw[hg];exact h5⟩
  ·exact ⟨k0,e0,u0,q0,xs0,by rw[Ze _ _ e1];exact h1,h2,h3,h4,by rw[hg];exact h5⟩
 | ptr c s=>
  simp only[killL,killR];by_cases e1:c=b
  ·rw[if_pos e1];trivial
  ·rw[if_neg e1]
   obtain ⟨k0,y,h1,h2,h3,h4,h5⟩:=h;exact ⟨k0,y,by rw[Ze _ _ e1];exact h1,h2,h3,h4,by rw[hg,hbase _ e1];exact h5⟩
 | tup c n=>
  simp only[killL,killR];by_cases e1:c=b
  ·rw[if_pos e1];trivial
  ·rw[if_neg e1]
   obtain ⟨k0,h1,h2,h3⟩:=h;exact ⟨k0,by rw[Ze _ _ e1];exact h1,h2,by rw[hg];exact h3⟩
 | _=>exact h
theorem Mem.box (hm:Mem w0 F0 T0 E blk w) {h d:Nat} {k:Blk} (hh:blk h=some k) (hv:k.var=false) (hhd:h≠d) (e:TypeId):
  ∃E',Mem w0 F0 T0 E' (setB (setB blk h none) d (some ⟨true,false,k.p,k.ty,k.x⟩)) (w.alloc (.cells (cells k.ty k.x (E.g h)).toArray e))∧
   Kept w (Tch T0 E blk w) (w.alloc (.cells (cells k.ty k.x (E.g h)).toArray e)) (Tch T0 E' (setB (setB blk h none) d (some ⟨true,false,k.p,k.ty,k.x⟩)) (w.alloc (.cells (cells k.ty k.x (E.g h)).toArray e)))∧
   E'.base d=w.heap.size∧(∀i,i≠d→E'.g i=E.g i∧E'.base i=E.base i):=by
 let E':Env:=⟨setG E.g d (E.g h),fun i=>if i=d then w.heap.size else E.base i⟩
 have hfd:feet E' (setB (setB blk h none) d (some ⟨true,false,k.p,k.ty,k.x⟩)) d=w.heap.size::foot k.ty k.p k.x (E.g h):=by
  unfold feet;rw[setB_same];simp [E']
 have hfh:feet E' (setB (setB blk h none) d (some ⟨true,false,k.p,k.ty,k.x⟩)) h=[]:=by
  unfold feet;rw[Ze _ _ hhd,setB_same]
 have hf0:feet E blk h=foot k.ty k.p k.x (E.g h):=by rw[ZE hh,hv];simp
 obtain ⟨hM,hK⟩:=hm.redo (w':=w.alloc (.cells (cells k.ty k.x (E.g h)).toArray e)) (E':=E') (blk':=setB (setB blk h none) d (some ⟨true,false,k.p,k.ty,k.x⟩)) (fun i=>i=h∨i=d)
  (fun i hi=>by
   have h1:i≠h:=fun e=>hi (.inl e)
   have h2:i≠d:=fun e=>hi (.inr e)
   exact ⟨by rw[Ze _ _ h2,Ze _ _ h1],by simp [E',Zl _ _ h2],by simp [E',h2]⟩)
  (fun i hi j hj=>by
   rcases hi with rfl | rfl
   ·rw[hfh] at hj;cases hj
   ·rw[hfd] at hj
    rcases List.mem_cons.1 hj with rfl | hj
    ·exact .inr ⟨Xl _,by simp⟩
    ·exact .inl ⟨h, .inl rfl,by rw[hf0];exact hj⟩)
  (fun i hi=>by
   rcases hi with rfl | rfl
   ·rw[hfh];simp
   ·rw[hfd,List.nodup_cons]
    exact ⟨fun hin=>by have:=hm.feet_lt (b:=h) (by rw[hf0];exact hin);omega,Zac hm hh⟩)
  (fun i i' j hi hi' hj hj'=>by
   rcases hi with rfl | rfl<;>rcases hi' with rfl | rfl
   ·rfl
   ·rw[hfh] at hj;cases hj
   ·rw[hfh] at hj';cases hj'
   ·rfl)
  rfl rfl rfl (by simp) (fun j hj _=>heap_alloc_old w _ j hj)
  (fun hK i k' hi hk'=>by
   rcases hi with rfl | rfl
   ·rw[Ze _ _ hhd,setB_same] at hk';cases hk'
   ·rw[setB_same] at hk'
    cases hk';refine ⟨?_,fun _=>⟨e, ?_⟩⟩
    ·show Holds _ _ _ _ _ (E'.g i)
     rw[show E'.g i=E.g h by simp [E']];refine Holds.agree _ _ _ _ (hm.blks h k hh).holds (fun j hj=>heap_alloc_old w _ j (hm.feet_lt (b:=h) (by rw[hf0];exact hj))) hK
    ·show (w.alloc _).heap[E'.base i]? =some (.cells (cells k.ty k.x (E'.g i)).toArray e (0,0))
     rw[show E'.base i=w.heap.size by simp [E'],show E'.g i=E.g h by simp [E']];exact heap_alloc_new w _)
 exact ⟨E',hM,hK,by simp [E'],fun i hi=>⟨by simp [E',Zl _ _ hi],by simp [E',hi]⟩⟩
theorem Mem.store (hm:Mem w0 F0 T0 E blk w) {h b:Nat} {k k2:Blk} {s:Path} {y:Sub} {r:Perm×k.ty.den} {w':World} (hb:blk b=some k) (hh:blk h=some k2) (hv:k2.var=false) (hhb:h≠b) (hty:k2.ty=y.ty)
  (hs:sub k.ty k.p k.x s=some y) (hr:inR k.ty k.x s) (hd:k.var=true∨deep k.ty s=true) (hp:put k.ty k.p k.x s y.ty k2.p (castTo hty k2.x)=some r)
  (hst:Stored w w' (addrOf k.ty (E.g b) s ⟨E.base b,0,none⟩) (cells y.ty (castTo hty k2.x) (E.g h))):
  Mem w0 F0 T0 ⟨setG E.g b (ghSet k.ty (E.g b) s (E.g h)),E.base⟩ (setB (setB blk h none) b (some ⟨k.var,k.pin,r.1,k.ty,r.2⟩)) w'∧
   Kept w (Tch T0 E blk w) w' (Tch T0 ⟨setG E.g b (ghSet k.ty (E.g b) s (E.g h)),E.base⟩ (setB (setB blk h none) b (some ⟨k.var,k.pin,r.1,k.ty,r.2⟩)) w'):=by
 obtain ⟨v2,pin2,p2,ty2,x2⟩:=k2;simp only at hv hty hp hst;subst hv;subst hty;simp only[castTo] at hp hst;have hbk:=hm.blks b k hb;have hbase:(⟨E.base b,0,none⟩:Addr).spot=none:=rfl;have hroot:deep k.ty s=true∨(MemAt w ⟨E.base b,0,none⟩ (cells k.ty k.x (E.g b))∧E.base b∉foot k.ty k.p k.x (E.g b)∧(∀e,¬Tch T0 E blk w e (E.base b))∧k.var=true):=by
  rcases hd with hd | hd
  ·right
   obtain ⟨e,he⟩:=hbk.var hd;refine ⟨fun j u hj=> ?_, ?_,hm.notT (ZbD hb hd),hd⟩
   ·rw[ZcD (a:=⟨E.base b,0,none⟩) rfl he,Nat.zero_add];simpa using hj
   ·have:=hm.sep.nodup b
    rw[ZE hb,if_pos hd] at this;simp only[List.cons_append,List.nil_append,List.nodup_cons] at this;exact this.1
  ·exact .inl hd
 have hpos:=ZaA k.ty k.p k.x (E.g b) s y ⟨E.base b,0,none⟩ hbk.holds rfl (hroot.imp id And.left) hr hs;have hmod:(addrOf k.ty (E.g b) s ⟨E.base b,0,none⟩).block∈feet E blk b:=by
  cases hdd:deep k.ty s with
  | true=>exact Zk hb (hpos.2.2.1 hdd)
  | false=>rw[(hpos.2.2.2 hdd).1];exact ZbD hb (hroot.resolve_left (by simp [hdd])).2.2.2
 have hmodT:=hm.notT hmod;have hfh0:feet E blk h=foot y.ty p2 x2 (E.g h):=by rw[ZE hh];simp
 have hmodh:(addrOf k.ty (E.g b) s ⟨E.base b,0,none⟩).block∉foot y.ty p2 x2 (E.g h):=fun hin=>hhb (hm.sep.apart h b _ (by rw[hfh0];exact hin) hmod)
 have hz:Holds w' (Tch T0 E blk w) y.ty p2 x2 (E.g h):=Holds.agree _ _ _ _ (hm.blks h _ hh).holds (fun j hj=>hst.other j (fun e=>hmodh (e▸hj))) (fun i j hj=>⟨hst.other j (fun e=>hmodT i (e▸hj)),hj⟩)
 have hput:Holds w' (Tch T0 E blk w) k.ty r.1 r.2 (ghSet k.ty (E.g b) s (E.g h))∧(deep k.ty s=true→cells k.ty r.2 (ghSet k.ty (E.g b) s (E.g h))=cells k.ty k.x (E.g b))∧(deep k.ty s=false→MemAt w' ⟨E.base b,0,none⟩ (cells k.ty r.2 (ghSet k.ty (E.g b) s (E.g h))))∧
   ∃L R,foot k.ty k.p k.x (E.g b)=L++foot y.ty y.p y.x (ghAt k.ty (E.g b) s)++R∧foot k.ty r.1 r.2 (ghSet k.ty (E.g b) s (E.g h))=L++foot y.ty p2 x2 (E.g h)++R:=by
  rcases hroot with hdeep | ⟨r1,r2,r3,_⟩
  · -- any root address serves: one that is nobody's
   have hex:∃n,n∉foot k.ty k.p k.x (E.g b)∧∀e,¬Tch T0 E blk w e n:=⟨w.heap.size,fun hin=>by have:=hm.feet_lt (Zk hb hin);omega,fun _ ⟨_,hlt,_⟩=>by omega⟩
   obtain ⟨n,hn1,hn2⟩:=hex;have haddr:addrOf k.ty (E.g b) s ⟨E.base b,0,none⟩=addrOf k.ty (E.g b) s ⟨n,0,none⟩:=addr_deep k.ty (E.g b) s _ _ hdeep;rw[haddr] at hst;obtain ⟨q1,q2,q3,q4⟩:=Za9 k.ty k.p k.x (E.g b) s y ⟨n,0,none⟩ p2 x2 (E.g h) r hbk.holds rfl (.inl hdeep) hr hs hp (Zac hm hb) hn1 (fun j hj=>hm.notT (Zk hb hj)) hz hst
   refine ⟨q1,q2,(fun hf=> ?_),q4⟩;rw[hdeep] at hf;cases hf
  ·exact Za9 k.ty k.p k.x (E.g b) s y ⟨E.base b,0,none⟩ p2 x2 (E.g h) r hbk.holds rfl (.inr ⟨r1,r3⟩) hr hs hp (Zac hm hb) r2 (fun j hj=>hm.notT (Zk hb hj)) hz hst
 obtain ⟨q1,q2,q3,L,R,q4,q5⟩:=hput;have hfb:feet ⟨setG E.g b (ghSet k.ty (E.g b) s (E.g h)),E.base⟩ (setB (setB blk h none) b (some ⟨k.var,k.pin,r.1,k.ty,r.2⟩)) b=(if k.var then [E.base b] else [])++(L++foot y.ty p2 x2 (E.g h)++R):=by
  unfold feet;rw[setB_same];simp only[setG_same,q5]
 have hfh:feet ⟨setG E.g b (ghSet k.ty (E.g b) s (E.g h)),E.base⟩ (setB (setB blk h none) b (some ⟨k.var,k.pin,r.1,k.ty,r.2⟩)) h=[]:=by
  unfold feet;rw[Ze _ _ hhb,setB_same]
 have hfb0:feet E blk b=(if k.var then [E.base b] else [])++(L++foot y.ty y.p y.x (ghAt k.ty (E.g b) s)++R):=by rw[ZE hb,q4]
 have hndb:=hm.sep.nodup b;have hndh:=hm.sep.nodup h;rw[hfh0] at hndh
 refine hm.redo (w':=w') (fun i=>i=h∨i=b)
  (fun i hi=>by
   have h1:i≠h:=fun e=>hi (.inl e)
   have h2:i≠b:=fun e=>hi (.inr e)
   exact ⟨by rw[Ze _ _ h2,Ze _ _ h1],Zl _ _ h2,rfl⟩)
  (fun i hi j hj=> .inl (by
   rcases hi with rfl | rfl
   ·rw[hfh] at hj;cases hj
   ·rw[hfb] at hj
    simp only[List.mem_append] at hj;rcases hj with hj | (hj | hj) | hj
    ·exact ⟨i, .inr rfl,by rw[hfb0];simp [hj]⟩
    ·exact ⟨i, .inr rfl,by rw[hfb0];simp [hj]⟩
    ·exact ⟨h, .inl rfl,by rw[hfh0];exact hj⟩
    ·exact ⟨i, .inr rfl,by rw[hfb0];simp [hj]⟩))
  (fun i hi=>by
   rcases hi with rfl | rfl
   ·rw[hfh];simp
   ·rw[hfb]
    rw[hfb0] at hndb;have ap:∀j,j∈foot y.ty p2 x2 (E.g h)→j∉feet E blk i:=fun j hj hj'=>hhb (hm.sep.apart h i j (by rw[hfh0];exact hj) hj')
    rw[hfb0] at ap;simp only[List.nodup_append,List.mem_append] at hndb ap ⊢;obtain ⟨b1,⟨⟨b2,⟨b3,b4⟩⟩,b5,b6⟩,b7⟩:=hndb;refine ⟨b1,⟨⟨b2,hndh,fun a ha c hc e=>ap c hc (.inr (.inl (.inl (e▸ha))))⟩,b5,fun a ha c hc=> ?_⟩,fun a ha c hc=> ?_⟩
    ·rcases ha with ha | ha
     ·exact b6 a (.inl ha) c hc
     ·exact fun e=>ap a ha (.inr (.inr (e▸hc)))
    ·rcases hc with (hc | hc) | hc
     ·exact b7 a ha c (.inl (.inl hc))
     ·exact fun e=>ap c hc (.inl (e▸ha))
     ·exact b7 a ha c (.inr hc))
  (fun i i' j hi hi' hj hj'=>by
   rcases hi with rfl | rfl<;>rcases hi' with rfl | rfl
   ·rfl
   ·rw[hfh] at hj;cases hj
   ·rw[hfh] at hj';cases hj'
   ·rfl)
  hst.os hst.tape hst.output (by rw[hst.size];exact Xl _)
  (fun j _ hn=>hst.other j (fun e=>hn b (.inr rfl) (e▸hmod)))
  (fun hK i k' hi hk'=>by
   rcases hi with rfl | rfl
   ·rw[Ze _ _ hhb,setB_same] at hk';cases hk'
   ·rw[setB_same] at hk'
    cases hk';refine ⟨?_,fun hvv=> ?_⟩
    ·simp only[setG_same]
     exact Holds.agree _ _ _ _ q1 (fun _ _=>rfl) (fun i j hj=>⟨rfl,(hK i j hj).2⟩)
    ·simp only[setG_same]
     obtain ⟨e,he⟩:=hbk.var hvv;by_cases hblk:E.base i=(addrOf k.ty (E.g i) s ⟨E.base i,0,none⟩).block
     ·obtain ⟨cur,cur',e',fr',e1,e2,e3,_⟩:=hst.here
      rw[←hblk] at e1 e2;rw[he] at e1;simp only[Option.some.injEq,Obj.cells.injEq] at e1;obtain ⟨rfl,rfl,rfl⟩:=e1;have hdd:deep k.ty s=false:=by
       cases hdd:deep k.ty s with
       | false=>rfl
       | true=>
        have hh:=hpos.2.2.1 hdd;rw[←hblk] at hh;have hn:=hm.sep.nodup i;rw[ZE hb,if_pos hvv] at hn;simp only[List.cons_append,List.nil_append,List.nodup_cons] at hn;exact absurd hh hn.1
      refine ⟨e, ?_⟩;rw[e2];have hm':=q3 hdd
      congr 2
      apply Array.ext_getElem?;intro j;by_cases hj:j<(cells k.ty r.2 (ghSet k.ty (E.g i) s (E.g h))).length
      ·have:=hm' j _ (List.getElem?_eq_getElem hj)
       rw[ZcD (a:=⟨E.base i,0,none⟩) rfl e2,Nat.zero_add] at this;rw[this];simp [hj]
      ·rw[Array.getElem?_eq_none (by rw[e3];simp only[List.size_toArray];rw[Za] at hj ⊢;omega),Array.getElem?_eq_none (by simp only[List.size_toArray];omega)]
     ·refine ⟨e, ?_⟩
      rw[hst.other _ hblk,he];have hdd:deep k.ty s=true:=by
       cases hdd:deep k.ty s with
       | true=>rfl
       | false=>exact absurd (hpos.2.2.2 hdd).1.symm hblk
      rw[q2 hdd])
where
 addr_deep:∀(t:Ty) (g:Gh) (s:Path) (a a':Addr),deep t s=true→addrOf t g s a=addrOf t g s a'
 | .prod ta _,g, .fst::s,a,a',h=>by simp only[deep] at h;simp only[addrOf];exact addr_deep ta _ s _ _ h
 | .prod _ tb,g, .snd::s,a,a',h=>by simp only[deep] at h;simp only[addrOf];exact addr_deep tb _ s _ _ h
 | .arr _ t,g, .idx i::s,a,a',h=>by simp only[deep] at h;simp only[addrOf];exact addr_deep t _ s _ _ h
 | .slice _ t,g, .idx i::s,a,a',h=>by simp only[addrOf]
 | .int _,_,_,_,_,h | .bool,_,_,_,_,h | .str,_,_,_,_,h | .err,_,_,_,_,h=>by simp [deep] at h
 | .prod _ _,_,[],_,_,h | .arr _ _,_,[],_,_,h | .slice _ _,_,[],_,_,h=>by simp [deep] at h
 | .prod _ _,_, .idx _::_,_,_,h | .arr _ _,_, .fst::_,_,_,h | .arr _ _,_, .snd::_,_,_,h | .slice _ _,_, .fst::_,_,_,h | .slice _ _,_, .snd::_,_,_,h=>by simp [deep] at h
end
end
end Go.Rx
namespace Go.Rx
noncomputable section
open Go.RowKit
theorem ZaF {w w':World} {T T':TypeId→Nat→Prop}:∀(t:Ty) (p p':Perm) (x:t.den) (g:Gh),t.flat=true→Holds w T t p x g→Holds w' T' t p' x g
 | .int _,_,_,_,_,_,_ | .bool,_,_,_,_,_,_ | .str,_,_,_,_,_,_=>by simp [Holds]
 | .err,_,_,_,_,_,h=>by simpa [Holds] using h
 | .prod a b,p,p',x,g,hf,h=>by
  simp only[Ty.flat,Xh] at hf;simp only[Holds] at h ⊢;exact ⟨ZaF a _ _ _ _ hf.1 h.1,ZaF b _ _ _ _ hf.2 h.2⟩
 | .arr n t,p,p',xs,g,hf,h=>by
  simp only[Ty.flat] at hf;simp only[Holds] at h ⊢;exact ⟨h.1,fun i hi=>ZaF t _ _ _ _ hf (h.2 i hi)⟩
 | .slice _ _,_,_,_,_,hf,_=>by simp [Ty.flat] at hf
theorem ZaV:∀(t:Ty) (p:Perm) (x:t.den) (g:Gh),t.flat=true→foot t p x g=[]
 | .int _,_,_,_,_ | .bool,_,_,_,_ | .str,_,_,_,_ | .err,_,_,_,_ | .arr _ _,_,_,_,_=>by simp [foot]
 | .prod a b,p,x,g,hf=>by
  simp only[Ty.flat,Xh] at hf;simp [foot,ZaV a _ _ _ hf.1,ZaV b _ _ _ hf.2]
 | .slice _ _,_,_,_,hf=>by simp [Ty.flat] at hf
section
variable {P:Program} (w:World)
theorem Zgs (t ty e:TypeId) (i:TypeInfo) (z:Value) (size bytes:Nat) (ht:P.underlying t=some (.slice e)) (hi:P.info? e=some i) (hz:i.zero=some z)
  (hsize:i.size=size) (hby:i.bytes=bytes) (hzs:z.cells.size=size) (hsz:0<size)
  (v:Value) (n:Nat) (xs:List Value) (hown:w.ownsRow 0 e size v n xs)
  (A:Option Addr) (m c:Nat) (hA:A=none→m=0∧c=0) (news:List Value) (hl:news.length=m*size) (hnews:∀a,A=some a→∀j u,news[j]? =some u→w.cell? (a.add j)=some u) (h1:∀u∈news,u.oneCell'=true)
  (hbytes:(n+m)*bytes≤140737488355328) (h63:n+m≤maxLen):
  ∃v' w',(Builtin.append_ #[t,t] ty #[v, .slice A m c]).run P w= .ok v' w'∧w'.ownsRow 0 e size v' (n+m) (xs++news)∧w.grownBy w' v.ownBlock∧
   (v'.ownBlock=v.ownBlock∨(v'.ownBlock=some w.heap.size∧w.heap.size<w'.heap.size)):=by
 cases A with
 | none=>
  obtain ⟨rfl,rfl⟩:=hA rfl;have hn:news=[]:=List.eq_nil_of_length_eq_zero (by simpa using hl);subst hn;exact ⟨v,w,run_append_owned_none (P:=P) (w:=w) 0 t ty e i size ht hi v n xs hown,by simpa using hown,⟨rfl,rfl,rfl,Xl _,fun _ _ _=>rfl⟩, .inl rfl⟩
 | some a=>
  have hnews:=hnews a rfl;obtain ⟨v',w',hr,h2,h3,_⟩:=run_append_own (P:=P) w 0 t ty e i z size bytes ht hi hz hsize hby hzs hsz v n xs hown a m c news hl hnews h1 h63 hbytes (Nat.zero_le _);refine ⟨v',w',hr,h2,h3, ?_⟩;subst hsize;subst hby;have hsmall:n+m≤9223372036854775807:=by simp only[maxLen] at h63;omega
  rcases hown.2 with ⟨rfl,rfl⟩ | ⟨g,cap,cur,rfl,hbg,hg,hnc,hcm,hcs,htake⟩
  ·have hx:xs=[]:=List.eq_nil_of_length_eq_zero (by simpa using hown.1)
   subst hx;by_cases hm:m=0
   ·subst hm
    have:(Builtin.append_ #[t,t] ty #[.slice none 0 0, .slice (some a) 0 c]).run P w= .ok (.slice none 0 0) w:=by
     simp [Builtin.append_,run_underlying ht,sizeOf,typeInfo,hi,Builtin.lenOf,Builtin.firstCells,loadCells,loadCellsFrom]
    rw[this] at hr;cases hr;exact .inl rfl
   ·have hr2:=run_append_nil (P:=P) w t ty e i z ht hi hz a m c news hl hnews (by omega) (by omega) (by have hb:=hbytes;simp only[Nat.zero_add] at hb;omega)
    rw[hr2] at hr;cases hr;exact .inr ⟨rfl,by simp⟩
  ·by_cases hroom:n+m≤cap
   ·have hfit:n*i.size+news.length≤cur.size:=by rw[hl,hcs,←Nat.add_mul];exact Nat.mul_le_mul_right _ hroom
    have hr2:=run_append_room (P:=P) w t ty e i ht hi g n cap cur hg a m c news hl hnews h1 hroom hfit;rw[hr2] at hr;cases hr;exact .inl rfl
   ·have holds:∀j u,xs[j]? =some u→w.cell? ((⟨g,0,none⟩:Addr).add j)=some u:=hown.cells (g:=g) rfl
    have hr2:=run_append_grow (P:=P) w t ty e i z ht hi hz ⟨g,0,none⟩ n cap xs hown.1 holds a m c news hl hnews (by omega) (by omega) (growslice_fits (by omega) hbytes);rw[hr2] at hr;cases hr;exact .inr ⟨rfl,by simp⟩
theorem Zco (g o:Nat) (t:TypeId) (fr:Nat×Nat):∀(vs:List Value) (i:Nat) (cur:Array Value) (w:World),w.heap[g]? =some (.cells cur t fr)→(fr=(0,0)∨cur.size≤fr.1)→o+i+vs.length≤cur.size→(∀v∈vs,v.oneCell'=true)→
  (storeCells ⟨g,o,none⟩ vs i).run P w= .ok () (w.setRow g (cur.toList.take (o+i)++vs++cur.toList.drop (o+i+vs.length)).toArray)
 | [],i,cur,w,hg,_,_,_=>by
  simp only[storeCells,List.append_nil,List.length_nil,Nat.add_zero,List.take_append_drop,Array.toArray_toList];rw[setRow_self w g cur t fr hg];rfl
 | v::rest,i,cur,w,hg,hfr,hl,h1=>by
  have hi:o+i<cur.size:=by simp at hl;omega
  have hadd:(⟨g,o,none⟩:Addr).add i=⟨g,o+i,none⟩:=by unfold Addr.add;split<;>simp_all
  have hcell:w.cell? ⟨g,o+i,none⟩=some cur[o+i]:=by simp [World.cell?,hg,hi]
  have hfro:w.frozen? ⟨g,o+i,none⟩=false:=by
   unfold World.frozen?;rw[hg];rcases hfr with rfl | hfr
   ·simp
   ·simp only[Bool.and_eq_false_iff,decide_eq_false_iff_not];left;omega
  have hst:(store ((⟨g,o,none⟩:Addr).add i) v).run P w= .ok () (w.setRow g (cur.setIfInBounds (o+i) v)):=by
   rw[hadd,run_store P w _ v _ (h1 v (by simp)),hcell];simp [hfro,setCell_eq_setRow w g (o+i) cur t fr v hg]
  have ih:=Zco g o t fr rest (i+1) (cur.setIfInBounds (o+i) v) (w.setRow g (cur.setIfInBounds (o+i) v)) (setRow_heap w g cur _ t fr hg) (by simpa using hfr) (by simp at hl ⊢;omega) (fun x hx=>h1 x (by simp [hx]))
  simp only[storeCells,Sem.run_bind,hst,Result.andThen_ok,ih,setRow_setRow]
  congr 3
  have e:=list_seg_step cur.toList (o+i) v rest (by simp at hl ⊢;omega)
  simpa [Array.toList_setIfInBounds,Nat.add_assoc] using e
theorem Zgt (t ty e:TypeId) (i:TypeInfo) (z:Value) (size bytes:Nat) (ht:P.underlying t=some (.slice e)) (hi:P.info? e=some i) (hz:i.zero=some z)
  (hsize:i.size=size) (hby:i.bytes=bytes) (hzs:z.cells.size=size) (hsz:0<size) {u:Ty}
  (v:Value) (n:Nat) (xs:List Value) (hown:OwnR w u e size v n xs)
  (A:Option Addr) (m c:Nat) (hA:A=none→m=0∧c=0) (news:List Value) (hl:news.length=m*size) (hnews:∀a,A=some a→∀j u,news[j]? =some u→w.cell? (a.add j)=some u) (h1:∀u∈news,u.oneCell'=true)
  (hbytes:(n+m)*bytes≤140737488355328) (h63:n+m≤maxLen):
  ∃v' w',(Builtin.append_ #[t,t] ty #[v, .slice A m c]).run P w= .ok v' w'∧OwnR w' u e size v' (n+m) (xs++news)∧w.grownBy w' v.ownBlock∧
   (v'.ownBlock=v.ownBlock∨(v'.ownBlock=some w.heap.size∧w.heap.size<w'.heap.size)):=by
 have easy:w.ownsRow 0 e size v n xs→∃v' w',(Builtin.append_ #[t,t] ty #[v, .slice A m c]).run P w= .ok v' w'∧OwnR w' u e size v' (n+m) (xs++news)∧w.grownBy w' v.ownBlock∧
   (v'.ownBlock=v.ownBlock∨(v'.ownBlock=some w.heap.size∧w.heap.size<w'.heap.size)):=fun h=>by
  obtain ⟨v',w',r1,r2,r3,r4⟩:=Zgs (P:=P) w t ty e i z size bytes ht hi hz hsize hby hzs hsz v n xs h A m c hA news hl hnews h1 hbytes h63;exact ⟨v',w',r1,OwnR.of (t:=u) r2,r3,r4⟩
 have hlen:(xs++news).length=(n+m)*size:=by rw[Xm,hown.1,hl,Nat.add_mul]
 rcases hown.2 with ⟨hv,hn⟩ | ⟨g,cap,cur,hv,⟨fr,hfr,hg⟩,hnc,hcm,hcs,htake⟩
 ·exact easy ⟨hown.1, .inl ⟨hv,hn⟩⟩
 rcases hfr with rfl | ⟨hu,rfl⟩
 ·exact easy ⟨hown.1, .inr ⟨g,cap,cur,hv,Nat.zero_le _,hg,hnc,hcm,hcs,htake⟩⟩
 subst hsize;subst hby;have hx:MemAt w ⟨g,0,none⟩ xs:=hown.cells hv;subst hv;cases A with
 | none=>
  obtain ⟨rfl,rfl⟩:=hA rfl;have hn:news=[]:=List.eq_nil_of_length_eq_zero (by simpa using hl);subst hn;refine ⟨.slice (some ⟨g,0,none⟩) n cap,w, ?_,by simpa using hown,⟨rfl,rfl,rfl,Xl _,fun _ _ _=>rfl⟩, .inl rfl⟩;simp [Builtin.append_,run_underlying ht,sizeOf,typeInfo,hi,Builtin.lenOf,hnc,Builtin.firstCells,storeCells]
 | some a=>
  have hnews:=hnews a rfl;by_cases hroom:n+m≤cap
  ·have hfit:n*i.size+news.length≤cur.size:=by rw[hl,hcs,←Nat.add_mul];exact Nat.mul_le_mul_right _ hroom
   have hf:=run_firstCells_some (P:=P) w i.size m a m c news hl hnews;have hst:=Zco (P:=P) g (n*i.size) e (cur.size,cur.size+1) news 0 cur w hg (.inr (Xl _)) (by simpa using hfit) h1;simp only[Nat.add_zero] at hst;have hsz2:(cur.toList.take (n*i.size)++news++cur.toList.drop (n*i.size+news.length)).toArray.size=cur.size:=by simp;omega
   refine ⟨.slice (some ⟨g,0,none⟩) (n+m) cap,w.setRow g (cur.toList.take (n*i.size)++news++cur.toList.drop (n*i.size+news.length)).toArray, ?_,⟨hlen, .inr ⟨g,cap,_,rfl,⟨_, .inr ⟨hu,by rw[hsz2]⟩,setRow_heap w g cur _ e _ hg⟩,hroom,hcm,by rw[hsz2];exact hcs, ?_⟩⟩,⟨rfl,rfl,rfl,by simp [World.setRow],fun k _ hk=>setRow_other w g k _ (fun e'=>hk (by rw[e'];rfl))⟩, .inl rfl⟩
   ·simp [Builtin.append_,run_underlying ht,sizeOf,typeInfo,hi,Builtin.lenOf,hroom,hf,Addr.add_lit,hst]
   ·have e1:cur.toList.take (n*i.size)++news=xs++news:=by rw[htake]
    simp only[e1];rw[←hlen];exact List.take_left ..
  ·have hr2:=run_append_grow (P:=P) w t ty e i z ht hi hz ⟨g,0,none⟩ n cap xs hown.1 hx a m c news hl hnews (by omega) (by simp only[maxLen] at h63;omega) (growslice_fits (by omega) hbytes)
   have hge:=grownCap_ge w (n+m) cap e;have hcm2:grownCap w (n+m) cap e≤maxLen:=grownCap_le_maxLen w (n+m) cap e h63;refine ⟨_,_,hr2,OwnR.of (b:=0) ⟨hlen, .inr ⟨w.heap.size,_,_,rfl,Nat.zero_le _,heap_alloc_new w.drew _,hge,hcm2, ?_, ?_⟩⟩,⟨rfl,rfl,rfl,by simp,fun k hk _=>heap_alloc_old w.drew _ k hk⟩, .inr ⟨rfl,by simp⟩⟩
   ·simp only[Array.size_append,List.size_toArray,size_zeroCells,hzs,hown.1,hl,←Nat.add_mul]
    congr 1
    omega
   ·simp only[Array.toList_append,List.append_assoc]
    rw[←List.append_assoc,←hlen];exact List.take_left
end
theorem ZkX (f:Nat→List Value) (n:Nat):∀m,catN f (n+m)=catN f n++catN (fun i=>f (n+i)) m
 | 0=>by simp [catN]
 | m+1=>by rw[←Nat.add_assoc];simp only[catN];rw[ZkX f n m,List.append_assoc]
theorem ZkY (f:Nat→List Nat) (n:Nat):∀m,catF f (n+m)=catF f n++catF (fun i=>f (n+i)) m
 | 0=>by simp [catF]
 | m+1=>by rw[←Nat.add_assoc];simp only[catF];rw[ZkY f n m,List.append_assoc]
theorem Zbj {f:Nat→List Nat}:∀ {n:Nat},(∀i,i<n→f i=[])→catF f n=[]
 | 0,_=>rfl
 | n+1,h=>by simp only[catF];rw[Zbj (fun i hi=>h i (by omega)),h n (by omega)];rfl
section
variable {w0:World} {F0:List Nat} {T0:TypeId→Nat→Prop} {E:Env} {blk:Nat→Option Blk} {w:World}
theorem Mem.rowed (hm:Mem w0 F0 T0 E blk w) {h h2:Nat} (hne:h2≠h) {e:TypeId} {u:Ty} {q:Perm} {zs:List u.den} {gs:Nat→Gh} {v:Value} {w':World} {row:Option Nat}
  (hrow:∀k,row=some k→k∈feet E blk h)
  (hg:w.grownBy w' row) (hown:OwnR w' u e u.sz v zs.length (catN (fun i=>cells u (zs.getD i u.dflt) (gs i)) zs.length))
  (hv:∀k,v.ownBlock=some k→(k∈feet E blk h∧∀i,i<zs.length→k∉foot u q (zs.getD i u.dflt) (gs i))∨(w.heap.size≤k∧k<w'.heap.size))
  (hz:∀i,i<zs.length→Holds w (Tch T0 E blk w) u q (zs.getD i u.dflt) (gs i))
  (hrow2:∀k,row=some k→∀i,i<zs.length→k∉foot u q (zs.getD i u.dflt) (gs i))
  (hf:∀i,i<zs.length→∀k,k∈foot u q (zs.getD i u.dflt) (gs i)→k∈feet E blk h∨k∈feet E blk h2)
  (hnd:(catF (fun i=>foot u q (zs.getD i u.dflt) (gs i)) zs.length).Nodup):
  Mem w0 F0 T0 ⟨setG E.g h (.row v gs),E.base⟩ (setB (setB blk h2 none) h (some ⟨false,false, .own q, .slice e u,zs⟩)) w'∧
   Kept w (Tch T0 E blk w) w' (Tch T0 ⟨setG E.g h (.row v gs),E.base⟩ (setB (setB blk h2 none) h (some ⟨false,false, .own q, .slice e u,zs⟩)) w'):=by
 have hfh:feet ⟨setG E.g h (.row v gs),E.base⟩ (setB (setB blk h2 none) h (some ⟨false,false, .own q, .slice e u,zs⟩)) h=v.ownBlock.toList++catF (fun i=>foot u q (zs.getD i u.dflt) (gs i)) zs.length:=by
  unfold feet;rw[setB_same];simp [foot,Gh.head,Gh.at]
 have hfh2:feet ⟨setG E.g h (.row v gs),E.base⟩ (setB (setB blk h2 none) h (some ⟨false,false, .own q, .slice e u,zs⟩)) h2=[]:=by
  unfold feet;rw[Ze _ _ hne,setB_same]
 have hmod:∀j,j<w.heap.size→row≠some j→w'.heap[j]? =w.heap[j]? :=fun j hj hn=>hg.block j hj (fun e=>hn e.symm)
 refine hm.redo (w':=w') (fun i=>i=h∨i=h2)
  (fun i hi=>by
   have h1:i≠h:=fun e=>hi (.inl e)
   have h2':i≠h2:=fun e=>hi (.inr e)
   exact ⟨by rw[Ze _ _ h1,Ze _ _ h2'],Zl _ _ h1,rfl⟩)
  (fun i hi j hj=>by
   rcases hi with rfl | rfl
   ·rw[hfh,List.mem_append] at hj
    rcases hj with hj | hj
    ·rcases hv j (by simpa using hj) with h' | h'
     ·exact .inl ⟨i, .inl rfl,h'.1⟩
     ·exact .inr h'
    ·obtain ⟨m,hm',hk⟩:=Zw.1 hj
     rcases hf m hm' j hk with h' | h'
     ·exact .inl ⟨i, .inl rfl,h'⟩
     ·exact .inl ⟨h2, .inr rfl,h'⟩
   ·rw[hfh2] at hj;cases hj)
  (fun i hi=>by
   rcases hi with rfl | rfl
   ·rw[hfh]
    cases hb:v.ownBlock with
    | none=>simpa using hnd
    | some k=>
     simp only[Option.toList_some,List.cons_append,List.nil_append,List.nodup_cons];refine ⟨fun hin=> ?_,hnd⟩;obtain ⟨m,hm',hk⟩:=Zw.1 hin;rcases hv k hb with h' | h'
     ·exact h'.2 m hm' hk
     ·rcases hf m hm' k hk with hh | hh<;>(have:=hm.feet_lt hh;omega)
   ·rw[hfh2];simp)
  (fun i i' j hi hi' hj hj'=>by
   rcases hi with rfl | rfl<;>rcases hi' with rfl | rfl
   ·rfl
   ·rw[hfh2] at hj';cases hj'
   ·rw[hfh2] at hj;cases hj
   ·rfl)
  hg.os hg.tape hg.output hg.size
  (fun j hj hn=>hmod j hj (fun e=>hn h (.inl rfl) (hrow j e)))
  (fun hK i k' hi hk'=>by
   rcases hi with rfl | rfl
   ·rw[setB_same] at hk'
    cases hk';refine ⟨?_,by simp⟩;simp only[setG_same,Holds,Gh.head,Gh.at];refine ⟨hown,fun m hm'=>Holds.agree _ _ _ _ (hz m hm') (fun k hk=> ?_) hK⟩;have hlt:k<w.heap.size:=by rcases hf m hm' k hk with hh | hh<;>exact hm.feet_lt hh
    exact hmod k hlt (fun e=>hrow2 k e m hm' hk)
   ·rw[Ze _ _ hne,setB_same] at hk';cases hk')
end
end
end Go.Rx
namespace Go.Rx
noncomputable section
open Go.RowKit
theorem Zav {w:World} {T:TypeId→Nat→Prop}:∀ {t:Ty} {p:Perm} {x:t.den} {g:Gh},Holds w T t p x g→(toV t (cells t x g)).cells=(cells t x g).toArray
 | .int _,_,_,_,_=>rfl
 | .bool,_,_,_,_=>rfl
 | .str,_,_,_,_=>rfl
 | .err,_,_,g,h=>by
  simp only[Holds] at h;simp only[toV,Ty.agg,cells];rcases h with ⟨h,_⟩ | ⟨t,v,h,_⟩<;>rw[h]<;>rfl
 | .prod _ _,_,_,_,_=>rfl
 | .arr _ _,_,_,_,_=>rfl
 | .slice e t,p,xs,g,h=>by
  have:∃A n cap,g.head= .slice A n cap:=by
   cases p with
   | ro=>simp only[Holds] at h;obtain ⟨⟨A,cap,h,_⟩,_⟩:=h;exact ⟨A,_,cap,h⟩
   | dead=>simpa [Holds] using h
   | pr a b=>simp [Holds] at h
   | own q=>simp only[Holds] at h;obtain ⟨A,cap,h⟩:=Zb4 h.1;exact ⟨A,_,cap,h⟩
   | hole z0 q=>simp only[Holds] at h;obtain ⟨A,cap,h⟩:=Zb4 h.1;exact ⟨A,_,cap,h⟩
  obtain ⟨A,n,cap,h⟩:=this;simp only[toV,Ty.agg,cells,h];rfl
theorem Zad {w:World} {T:TypeId→Nat→Prop}:∀(t:Ty) (p:Perm) (x:t.den) (g:Gh),Holds w T t p x g→∀u,u∈cells t x g→u.oneCell'=true
 | .int _,_,_,_,_,u,hu=>by simp [cells] at hu;subst hu;rfl
 | .bool,_,_,_,_,u,hu=>by simp [cells] at hu;subst hu;rfl
 | .str,_,_,_,_,u,hu=>by simp [cells] at hu;subst hu;rfl
 | .err,_,_,g,h,u,hu=>by
  simp only[Holds] at h;simp only[cells,List.mem_singleton] at hu;subst hu;rcases h with ⟨h,_⟩ | ⟨t,v,h,_⟩<;>rw[h]<;>rfl
 | .prod a b,p,x,g,h,u,hu=>by
  simp only[Holds] at h;simp only[cells,List.mem_append] at hu;rcases hu with hu | hu
  ·exact Zad a _ _ _ h.1 u hu
  ·exact Zad b _ _ _ h.2 u hu
 | .arr n t,p,xs,g,h,u,hu=>by
  simp only[Holds] at h;simp only[cells] at hu;obtain ⟨i,hi,hu⟩:=mem_catN hu;exact Zad t _ _ _ (h.2 i hi) u hu
 | .slice e t,p,xs,g,h,u,hu=>by
  have:=Zav h;simp only[cells,List.mem_singleton] at hu;subst hu;cases p with
  | ro=>simp only[Holds] at h;obtain ⟨⟨A,cap,h,_⟩,_⟩:=h;rw[h];rfl
  | dead=>simp only[Holds] at h;obtain ⟨A,n,cap,h⟩:=h;rw[h];rfl
  | pr a b=>simp [Holds] at h
  | own q=>simp only[Holds] at h;obtain ⟨A,cap,h⟩:=Zb4 h.1;rw[h];rfl
  | hole z0 q=>simp only[Holds] at h;obtain ⟨A,cap,h⟩:=Zb4 h.1;rw[h];rfl
where
 mem_catN {f:Nat→List Value} {u:Value}:∀ {n:Nat},u∈catN f n→∃i,i<n∧u∈f i
 | 0,h=>by simp [catN] at h
 | n+1,h=>by
  simp only[catN,List.mem_append] at h;rcases h with h | h
  ·obtain ⟨i,hi,hu⟩:=mem_catN h;exact ⟨i,by omega,hu⟩
  ·exact ⟨n,by omega,h⟩
theorem mem_catN {f:Nat→List Value} {u:Value} {n:Nat} (h:u∈catN f n):∃i,i<n∧u∈f i:=Zad.mem_catN h
structure Fits (st:St):Prop where
 len:st.blks.length=st.regs.length
theorem Zb5 {α:Type}:∀(l:List (Option α)) (n:Nat),l.length≤n→nth l n none=none
 | [],_,_=>rfl
 | _::l,0,h=>by simp at h
 | _::l,n+1,h=>Zb5 l n (by simpa using h)
theorem Zr {w0:World} {F0:List Nat} {T0:TypeId→Nat→Prop} {E:Env} {st:St} {a:Act} {w:World} (hS:Sim w0 F0 T0 E st a w) (x:Operand):RegOk E w (Tch T0 E st.blk w) st.blk (st.opd x) (a.eval x):=by
 cases x with
 | tmp t=>exact hS.regs t
 | func f=>rfl
 | global g=>trivial
 | const v=>
  show RegOk E w _ _ (constReg v) v;unfold constReg;split
  ·exact ⟨.leaf,trivial,rfl⟩
  ·exact ⟨.leaf,trivial,rfl⟩
  ·exact ⟨.leaf,trivial,rfl⟩
  ·rfl
  ·exact ⟨.hd .nilIface, .inl ⟨rfl,rfl⟩,rfl⟩
  ·trivial
theorem ZfA (U V:List (Nat×Option Blk)) (b:Nat):lookU (U++V) b=match lookU V b with | some x=>some x | none=>lookU U b:=by
 induction U with
 | nil=>simp only[List.nil_append,lookU];cases lookU V b<;>rfl
 | cons a U ih=>
  obtain ⟨i,o⟩:=a;simp only[List.cons_append,lookU,ih];cases lookU V b<;>rfl
def updF (f:Nat→Option Blk) (V:List (Nat×Option Blk)):Nat→Option Blk:=fun b=>match lookU V b with | some x=>x | none=>f b
theorem Zos (f:Nat→Option Blk):updF f []=f:=rfl
theorem Zq (f:Nat→Option Blk) (b:Nat) (o:Option Blk):updF f [(b,o)]=setB f b o:=by
 funext i
 simp only[updF,lookU,setB];by_cases e:b=i
 ·subst e;simp
 ·rw[if_neg e,if_neg (fun h=>e h.symm)]
theorem ZN (f:Nat→Option Blk) (U V:List (Nat×Option Blk)):updF f (U++V)=updF (updF f U) V:=by
 funext b
 simp only[updF,ZfA];cases lookU V b<;>rfl
theorem ZhA:∀(U:List (Nat×Option Blk)) (bs:List (Option Blk)) (b:Nat),(∀c o,(c,o)∈U→c<bs.length)→nth (updAll U bs) b none=match lookU U b with | some x=>x | none=>nth bs b none
 | [],_,_,_=>rfl
 | (c,o)::U,bs,b,h=>by
  simp only[updAll,lookU];rw[ZhA U (setN bs c o) b (fun c' o' h'=>by rw[Zi];exact h c' o' (List.mem_cons_of_mem _ h'))]
  cases lookU U b with
  | some x=>rfl
  | none=>
   simp only[ZW];have hc:=h c o (by simp);by_cases e:c=b
   ·subst e;simp [hc]
   ·rw[if_neg (fun h=>e h.1.symm),if_neg e]
theorem Zas:∀(U:List (Nat×Option Blk)) (bs:List (Option Blk)),(updAll U bs).length=bs.length
 | [],_=>rfl
 | (c,o)::U,bs=>by simp only[updAll];rw[Zas U,Zi]
theorem Zgu (e:Eff) (dst:Option Nat) (st:St) (h:∀c o,(c,o)∈e.upd→c<st.blks.length):(e.apply dst st).blk=updF st.blk e.upd:=by
 funext b
 exact ZhA e.upd st.blks b h
theorem Zfa {e:Eff} {dst:Option Nat} {st:St} (h:Fits st):Fits (e.apply dst st):=by
 refine ⟨?_⟩;simp only[Eff.apply,Zas];cases dst with
 | none=>simp only[Zo];exact h.len
 | some d=>simp only[Zi,Zo];exact h.len
theorem Zf5 (a:Act) (d t:Nat) (v:Value):(a.put (some d) v).tmps.getD t undef=if t=d∧d<a.tmps.size then v else a.tmps.getD t undef:=by
 simp only[Act.put,Array.getD_eq_getD_getElem?,Array.getElem?_setIfInBounds];by_cases e:d=t
 ·subst e
  by_cases h:d<a.tmps.size
  ·simp [h]
  ·simp [h]
 ·rw[if_neg e,if_neg (fun h=>e h.1.symm)]
theorem Sim.step {w0:World} {F0:List Nat} {T0:TypeId→Nat→Prop} {E E':Env} {st:St} {a:Act} {w w':World} {e:Eff} {dst:Option Nat} {v:Value} {blk':Nat→Option Blk} (hS:Sim w0 F0 T0 E st a w)
  (hb:∀c o,(c,o)∈e.upd→c<st.blks.length) (hblk:updF st.blk e.upd=blk') (hm:Mem w0 F0 T0 E' blk' w') (hc:Carries e.kill E w (Tch T0 E st.blk w) st.blk E' w' (Tch T0 E' blk' w') blk')
  (hr:RegOk E' w' (Tch T0 E' blk' w') blk' e.r v):Sim w0 F0 T0 E' (e.apply dst st) (a.put dst v) w':=by
 have hblk2:(e.apply dst st).blk=blk':=(Zgu e dst st hb).trans hblk;refine ⟨fun t=> ?_, ?_, ?_,by rw[hblk2];exact hm⟩
 ·rw[hblk2]
  have hk:RegOk E' w' (Tch T0 E' blk' w') blk' (killL e.kill (st.reg t)) (a.tmps.getD t undef):=hc _ _ (hS.regs t);cases dst with
  | none=>
   show RegOk _ _ _ _ (nth (killAll e.kill st.regs) t .undef) _;rw[ZaC];exact hk
  | some d=>
   show RegOk _ _ _ _ (nth (setN (killAll e.kill st.regs) d e.r) t .undef) _;rw[ZW,Zo,Zf5,hS.size];by_cases e1:t=d∧d<st.regs.length
   ·rw[if_pos e1,if_pos e1];exact hr
   ·rw[if_neg e1,if_neg e1,ZaC];exact hk
 ·cases dst with
  | none=>simp only[Act.put,Eff.apply,Zo];exact hS.size
  | some d=>simp only[Act.put,Array.size_setIfInBounds,Eff.apply,Zi,Zo];exact hS.size
 ·cases dst<;>exact hS.defers
theorem Sim.pure {w0:World} {F0:List Nat} {T0:TypeId→Nat→Prop} {E:Env} {st:St} {a:Act} {w:World} {r:Reg} {dst:Option Nat} {v:Value} (hS:Sim w0 F0 T0 E st a w) (hr:RegOk E w (Tch T0 E st.blk w) st.blk r v):
  Sim w0 F0 T0 E (({ r:=r }:Eff).apply dst st) (a.put dst v) w:=
 hS.step (e:={ r:=r }) (blk':=st.blk) (fun _ _ h=>by cases h) (Zos _) hS.mem (Zbo (Kept.refl _ _)) hr
section
variable {w0:World} {F0:List Nat} {T0:TypeId→Nat→Prop} {E:Env} {blk:Nat→Option Blk} {w:World}
theorem Zae {E':Env} {w':World} {T T':TypeId→Nat→Prop} {h:Nat} {o:Option Blk} (hh:blk h=none) (hk:Kept w T w' T') (hg:∀i,i≠h→E'.g i=E.g i) (hb:∀i,i≠h→E'.base i=E.base i):
  Carries [] E w T blk E' w' T' (setB blk h o):=by
 intro r v h2;cases r with
 | val t x=>exact h2.val_kept hk
 | rp t x=>exact h2.rp_kept hk
 | vw c q=>
  obtain ⟨k',z,g1,g2,g3,g4⟩:=h2;have hc:c≠h:=fun e=>by rw[e,hh] at g1;cases g1
  exact ⟨k',z,by rw[Ze _ _ hc];exact g1,g2,g3,by rw[hg _ hc];exact g4⟩
 | sl c q lo n=>
  obtain ⟨k',e',u,o,xs,g1,g2,g3,g4,g5⟩:=h2;have hc:c≠h:=fun e=>by rw[e,hh] at g1;cases g1
  exact ⟨k',e',u,o,xs,by rw[Ze _ _ hc];exact g1,g2,g3,g4,by rw[hg _ hc];exact g5⟩
 | ptr c q=>
  obtain ⟨k',z,g1,g2,g3,g4,g5⟩:=h2;have hc:c≠h:=fun e=>by rw[e,hh] at g1;cases g1
  exact ⟨k',z,by rw[Ze _ _ hc];exact g1,g2,g3,g4,by rw[hg _ hc,hb _ hc];exact g5⟩
 | tup c n=>
  obtain ⟨k',g1,g2,g3⟩:=h2;have hc:c≠h:=fun e=>by rw[e,hh] at g1;cases g1
  exact ⟨k',by rw[Ze _ _ hc];exact g1,g2,by rw[hg _ hc];exact g3⟩
 | _=>exact h2
theorem Zp (t:Ty) (p:Perm) (x:t.den):sub t p x []=some ⟨t,p,x⟩:=by cases t<;>cases p<;>rfl
theorem Zdb (w:World) (T:TypeId→Nat→Prop) (e:TypeId) (u:Ty) (q:Perm):Holds w T (.slice e u) (.own q) ([]:List u.den) (.row (.slice none 0 0) fun _=> .leaf):=by
 simp only[Holds,Gh.head,List.length_nil,catN];exact ⟨OwnR.of (World.ownsRow_nil w 0 e u.sz),fun i hi=>absurd hi (by omega)⟩
theorem Zi9 {st:St} {U:List (Nat×Option Blk)} {t:Ty} {r:Reg} {c:Perm×t.den} {u:List (Nat×Option Blk)×List Kill} {h:Nat} {v:Value} (hc:contAs st U t r=some c) (ht:takeAs st U t r=some u)
  (hm:Mem w0 F0 T0 E blk w) (hU:∀b k,st.blkU U b=some k→blk b=some k) (hr:RegOk E w (Tch T0 E blk w) blk r v) (hh:blk h=none):
  ∃E',Mem w0 F0 T0 E' (setB (updF blk u.1) h (some ⟨false,false,c.1,t,c.2⟩)) w∧
   Carries u.2 E w (Tch T0 E blk w) blk E' w (Tch T0 E' (setB (updF blk u.1) h (some ⟨false,false,c.1,t,c.2⟩)) w) (setB (updF blk u.1) h (some ⟨false,false,c.1,t,c.2⟩))∧
   v=toV t (cells t c.2 (E'.g h))∧E'.base=E.base∧(∀b o,(b,o)∈u.1→∃k,st.blkU U b=some k):=by
 unfold contAs at hc;unfold takeAs at ht;cases r with
 | undef=>simp [contOf,Reg.cont] at hc
 | no=>simp [contOf,Reg.cont] at hc
 | ptr b s=>simp [contOf,Reg.cont] at hc
 | rp t x=>simp [contOf,Reg.cont] at hc
 | fn f=>simp [contOf,Reg.cont] at hc
 | tup b n=>simp [contOf,Reg.cont] at hc
 | nilS=>
  simp only[contOf] at hc ht;cases t with
  | slice e u'=>
   simp only[takeOf] at ht hc;cases ht;simp only[dite_true,Option.some.injEq] at hc;subst hc;obtain ⟨g1,g2⟩:=hm.plain h hh (.slice e u') (.own u'.zp) ([]:List u'.den) _ (Zdb w _ e u' u'.zp) (by simp [foot,Gh.head,Value.ownBlock,catF]);refine ⟨_,g1,Zae hh g2 (fun i hi=>Zl _ _ hi) (fun _ _=>rfl), ?_,rfl,by simp⟩;simp only[setG_same,toV,Ty.agg,cells,Gh.head];exact hr
  | _=>simp at hc
 | val t' x=>
  simp only[contOf,Reg.cont] at hc ht;split at hc
  case isFalse=>cases hc
  rename_i he;subst he;simp only[takeOf,Perm.plain,if_true] at ht;cases ht;cases hc;obtain ⟨g,h1,h2⟩:=hr;obtain ⟨g1,g2⟩:=hm.plain h hh t' .ro x g h1 (foot_ro _ _ _);exact ⟨_,g1,Zae hh g2 (fun i hi=>Zl _ _ hi) (fun _ _=>rfl),by simpa [castTo] using h2,rfl,by simp⟩
 | sl b s lo n=>
  simp only[contOf,Reg.cont] at hc ht;cases hb:st.blkU U b with
  | none=>rw[hb] at hc;simp at hc
  | some k=>
   rw[hb] at ht;simp only at ht;cases hs:sub k.ty k.p k.x s with
   | none=>rw[hs] at ht;simp at ht
   | some y=>
    rw[hs] at ht;obtain ⟨ty,p,x⟩:=y;cases ty<;>try (simp at ht;done)
    cases p<;>simp [takeOf,Perm.plain] at ht
 | vw b s=>
  simp only[contOf,Reg.cont] at hc ht;cases hb:st.blkU U b with
  | none=>rw[hb] at hc;simp at hc
  | some k=>
   rw[hb] at hc ht;simp only at hc ht;obtain ⟨k',y',q1,q2,q3,q4⟩:=hr;have hbb:=hU b k hb;rw[hbb] at q1;cases q1;rw[q2] at hc ht;simp only at hc ht;split at hc
   case isFalse=>cases hc
   rename_i he;subst he;cases hc;simp only[takeOf] at ht;have hbh:b≠h:=fun e=>by rw[e,hh] at hbb;cases hbb
   by_cases hpl:y'.p.plain=true
   ·rw[if_pos hpl] at ht
    cases ht;have hH:=ZD _ _ _ _ _ _ (hm.blks b k hbb).holds q3 q2;obtain ⟨g1,g2⟩:=hm.plain h hh y'.ty y'.p y'.x _ hH (ZdA _ _ _ _ hpl);exact ⟨_,g1,Zae hh g2 (fun i hi=>Zl _ _ hi) (fun _ _=>rfl),by simpa [castTo] using q4,rfl,by simp⟩
   ·rw[if_neg hpl] at ht
    simp only[hb] at ht;split at ht
    ·cases ht
    ·split at ht
     ·rename_i hpin hroot
      obtain ⟨hvar,rfl⟩:=hroot;cases ht;have hy:y'=⟨k.ty,k.p,k.x⟩:=by
       rw[Zp] at q2;exact (Option.some.inj q2).symm
      subst hy;obtain ⟨g1,g2⟩:=hm.rename b h k hbb hvar hh;refine ⟨⟨setG E.g h (E.g b),E.base⟩,by rw[Zq];exact g1, ?_, ?_,rfl,by simp [hb]⟩
      ·rw[Zq]
       have c1:=Zm (E:=E) (E':=E) (w:=w) (w':=w) (T:=Tch T0 E blk w) (T':=Tch T0 E blk w) (blk:=blk) b none (Kept.refl _ _) (fun _ _=>rfl) (fun _ _=>rfl);have c2:=Zae (blk:=setB blk b none) (E:=E) (w:=w) (w':=w) (E':=⟨setG E.g h (E.g b),E.base⟩) (T:=Tch T0 E blk w) (T':=_) (h:=h) (o:=some ⟨false,false,k.p,k.ty,k.x⟩) (by rw[Ze _ _ (Ne.symm hbh)];exact hh) g2 (fun i hi=>Zl _ _ hi) (fun _ _=>rfl)
       exact c1.trans c2
      ·have h3:ghAt k.ty (E.g b) []=E.g b:=by cases k.ty<;>rfl
       rw[h3] at q4
       simpa [castTo,setG_same] using q4
     ·split at ht
      ·rename_i r hput
       cases ht;obtain ⟨E',g1,g2,g3,g4,_⟩:=hm.takeAt hbb hh q2 q3 hput;refine ⟨E',by rw[Zq];exact g1,by rw[Zq];exact g2, ?_,g4,by simp [hb]⟩
       rw[g3];simpa [castTo] using q4
      ·cases ht
end
end
end Go.Rx
namespace Go.Rx
noncomputable section
open Go.RowKit
def Ty.zg:Ty→Gh
 | .slice _ _=> .row (.slice none 0 0) fun _=> .leaf
 | .prod a b=> .pr a.zg b.zg
 | .arr _ t=> .many fun _=>t.zg
 | .err=> .hd .nilIface
 | _=> .leaf
def offOf:Ty→Path→Nat
 | .prod a _, .fst::s=>offOf a s
 | .prod a b, .snd::s=>a.sz+offOf b s
 | _,_=>0
def DescOk (P:Program) (C:Ctx) (t:TypeId) (nf:Nat):Ty→Prop
 | .int k=>P.underlying t=some (.int k)
 | .bool=>P.underlying t=some .bool
 | .str=>P.underlying t=some .string
 | .err=>∃ms,P.underlying t=some (.interface ms)
 | .slice e u=>P.underlying t=some (.slice e)∧C.ty e=some u
 | .arr n u=>∃e,P.underlying t=some (.array n e)∧C.ty e=some u
 | .prod a b=>∃fs:Array Field,P.underlying t=some (.struct fs)∧fs.size=nf∧∀f,f<nf→∃(fl:Field) (u:Ty),fs[f]? =some fl∧tyAt (.prod a b) (fieldPath nf f)=some u∧C.ty fl.type=some u∧fl.offset=offOf (.prod a b) (fieldPath nf f)
def cmpFs (C:Ctx):Nat→Ty→Nat→List Field→Prop
 | 1,t,off,[f]=>f.name≠ "_"∧C.ty f.type=some t∧f.offset=off
 | n+2, .prod a b,off,f::fs=>f.name≠ "_"∧C.ty f.type=some a∧f.offset=off∧cmpFs C (n+1) b (off+a.sz) fs
 | _,_,_,_=>False
structure TyOk (P:Program) (C:Ctx) (t:TypeId) (ti:TI):Prop where
 info:∃i,P.info? t=some i∧i.size=ti.ty.sz∧i.bytes=ti.bytes∧i.zero=some (toV ti.ty (cells ti.ty ti.ty.dflt ti.ty.zg))
 pos:0<ti.ty.sz
 desc:DescOk P C t ti.nf ti.ty
 nf:ti.ty.agg=true→1≤ti.nf∨∃n u,ti.ty= .arr n u
 cmp:cmpN ti.nf ti.ty=true→∃fs:Array Field,P.underlying t=some (.struct fs)∧cmpFs C ti.nf ti.ty 0 fs.toList∧P.stoodInHeld t=false∧P.eqGuardType P.depth t=false
def TabOk (P:Program) (C:Ctx):Prop:=∀t ti,lookT C.tab t=some ti→TyOk P C t ti
theorem Zbu {P:Program} {C:Ctx} (h:TabOk P C) {t:TypeId} {ty:Ty} (ht:C.ty t=some ty):∃ti,lookT C.tab t=some ti∧ti.ty=ty∧TyOk P C t ti∧C.nf t=ti.nf∧C.bytes t=ti.bytes:=by
 unfold Ctx.ty at ht;cases hl:lookT C.tab t with
 | none=>rw[hl] at ht;cases ht
 | some ti=>
  rw[hl] at ht;exact ⟨ti,rfl,Option.some.inj ht,h t ti hl,by simp [Ctx.nf,hl],by simp [Ctx.bytes,hl]⟩
theorem ZaW (w:World) (T:TypeId→Nat→Prop):∀(t:Ty),Holds w T t t.zp t.dflt t.zg∧foot t t.zp t.dflt t.zg=[]
 | .int _ | .bool | .str=>by simp [Holds,foot]
 | .err=>by simp [Holds,foot,Ty.zg,Ty.dflt,Gh.head]
 | .prod a b=>by
  simp only[Holds,foot,Ty.zp,Ty.zg,Ty.dflt,Perm.mk_l,Perm.mk_r,Gh.pr_l,Gh.pr_r];have h1:=ZaW w T a;have h2:=ZaW w T b;exact ⟨⟨h1.1,h2.1⟩,by rw[h1.2,h2.2];rfl⟩
 | .arr n t=>by
  simp only[Holds,foot,Ty.zg,Ty.dflt,Gh.at,List.length_replicate,true_and,and_true];intro i hi;have h1:=ZaW w T t;have:(List.replicate n t.dflt).getD i t.dflt=t.dflt:=by simp [List.getD_eq_getElem?_getD,List.getElem?_replicate];split<;>rfl
  rw[this];exact zero_ro w T t
 | .slice e u=>⟨Zdb w T e u u.zp,by simp [foot,Ty.zp,Ty.zg,Gh.head,Value.ownBlock,catF,Ty.dflt]⟩
where
 zero_ro (w:World) (T:TypeId→Nat→Prop):∀t:Ty,Holds w T t .ro t.dflt t.zg
 | .int _ | .bool | .str=>by simp [Holds]
 | .err=>by simp [Holds,Ty.zg,Ty.dflt,Gh.head]
 | .prod a b=>by simp only[Holds,Ty.zg,Ty.dflt,Gh.pr_l,Gh.pr_r,Perm.l,Perm.r];exact ⟨zero_ro w T a,zero_ro w T b⟩
 | .arr n t=>by
  simp only[Holds,Ty.zg,Ty.dflt,Gh.at,List.length_replicate,true_and];intro i hi;have:(List.replicate n t.dflt).getD i t.dflt=t.dflt:=by simp [List.getD_eq_getElem?_getD,List.getElem?_replicate];split<;>rfl
  rw[this];exact zero_ro w T t
 | .slice e u=>by
  simp only[Holds,Ty.zg,Ty.dflt,Gh.head,List.length_nil];refine ⟨⟨none,0,rfl,Xl _,by simp,by simp,by simp,by simp⟩,fun i hi=>absurd hi (by omega)⟩
theorem zero_ro (w:World) (T:TypeId→Nat→Prop) (t:Ty):Holds w T t .ro t.dflt t.zg:=ZaW.zero_ro w T t
theorem Zil {P:Program} {w:World} {b o:Nat} {c:Value} {cur:Array Value} {e:TypeId} {fr:Nat×Nat} (h1:c.oneCell'=true) (hh:w.heap[b]? =some (.cells cur e fr)) (hlt:o<cur.size) (hfr:fr=(0,0)∨fr=(cur.size,cur.size+1)):
  (storeCells ⟨b,o,none⟩ [c] 0).run P w= .ok () (w.setCell ⟨b,o,none⟩ c)∧Stored w (w.setCell ⟨b,o,none⟩ c) ⟨b,o,none⟩ [c]:=by
 have hcell:w.cell? ⟨b,o,none⟩=some cur[o]:=by simp [World.cell?,hh,hlt]
 have hfz:w.frozen? ⟨b,o,none⟩=false:=by
  unfold World.frozen?;rw[hh];rcases hfr with rfl | rfl
  ·simp
  ·simp only[Bool.and_eq_false_iff,decide_eq_false_iff_not];left;omega
 have hb:(w.setCell ⟨b,o,none⟩ c).heap[b]? =some (.cells (cur.setIfInBounds o c) e fr):=by
  simp [World.setCell,Array.getElem?_modify,hh]
 refine ⟨?_,⟨rfl,rfl,rfl,by simp [World.setCell],fun k hk=>Go.heap_setCell_other w _ k c hk,cur,_,e,fr,hh,hb,by simp,fun j=> ?_⟩⟩
 ·have hadd:(⟨b,o,none⟩:Addr).add 0=⟨b,o,none⟩:=by simp [Addr.add]
  simp only[storeCells,Sem.run_bind,hadd,run_store P w _ c _ h1,hcell,hfz,Bool.false_eq_true,if_false,Result.andThen_ok];rfl
 ·simp only[List.length_singleton,Array.getElem?_setIfInBounds]
  by_cases hj:o=j
  ·subst hj;simp [hlt]
  ·rw[if_neg hj,if_neg (by omega)]
section
variable {P:Program} {C:Ctx} {t:TypeId} {ty:Ty} (hT:TabOk P C) (ht:C.ty t=some ty)
include hT ht
theorem ZT (w:World):(sizeOf t).run P w= .ok ty.sz w:=by
 obtain ⟨ti,_,rfl,hok,_⟩:=Zbu hT ht;obtain ⟨i,h1,h2,_⟩:=hok.info;simp [sizeOf,typeInfo,h1,h2]
theorem Zem (w:World):(zeroValue t).run P w= .ok (toV ty (cells ty ty.dflt ty.zg)) w:=by
 obtain ⟨ti,_,rfl,hok,_⟩:=Zbu hT ht;obtain ⟨i,h1,_,_,h4⟩:=hok.info;simp [zeroValue,typeInfo,h1,h4]
theorem Zja (w:World):(isAgg t).run P w= .ok ty.agg w:=by
 obtain ⟨ti,_,rfl,hok,_⟩:=Zbu hT ht;have hd:=hok.desc;cases hty:ti.ty<;>rw[hty] at hd<;>simp only[DescOk] at hd
 case int k=>simp [isAgg,run_underlying hd,Ty.agg]
 case bool=>simp [isAgg,run_underlying hd,Ty.agg]
 case str=>simp [isAgg,run_underlying hd,Ty.agg]
 case err=>obtain ⟨ms,hd⟩:=hd;simp [isAgg,run_underlying hd,Ty.agg]
 case slice e u=>simp [isAgg,run_underlying hd.1,Ty.agg]
 case arr n u=>obtain ⟨e,hd,_⟩:=hd;simp [isAgg,run_underlying hd,Ty.agg]
 case prod a b=>obtain ⟨fs,hd,_⟩:=hd;simp [isAgg,run_underlying hd,Ty.agg]
theorem ZdQ:0<ty.sz:=by
 obtain ⟨ti,_,rfl,hok,_⟩:=Zbu hT ht;exact hok.pos
theorem ZcE {w:World} {a:Addr} {x:ty.den} {g:Gh} (hm:MemAt w a (cells ty x g)):(loadVar t a).run P w= .ok (toV ty (cells ty x g)) w:=by
 unfold loadVar;simp only[Sem.run_bind,Zja hT ht,Result.andThen_ok];cases hag:ty.agg with
 | true=>
  simp only[if_true,Sem.run_bind,ZT hT ht,Result.andThen_ok];have:=run_loadCells_list (P:=P) (w:=w) a (cells ty x g) hm;rw[Za] at this;rw[this];simp [toV,hag]
 | false=>
  have h1:ty.sz=1:=by cases ty<;>simp_all [Ty.agg,Ty.sz]
  have hl:=Za ty x g;rw[h1] at hl;obtain ⟨c,hc⟩:=List.length_eq_one_iff.1 hl;rw[hc] at hm ⊢;have:=hm 0 c rfl;have ha:a.add 0=a:=by simp [Addr.add]
  rw[ha] at this;simp [load,Sem.run,this,toV,hag]
theorem Zim {w:World} {a:Addr} {v:Value} {cs:List Value} (hv:v.cells=cs.toArray) (hl:cs.length=ty.sz) (hs:a.spot=none) (h1:∀u∈cs,u.oneCell'=true)
  (hh:∃cur e,w.heap[a.block]? =some (.cells cur e (0,0))∧a.off+ty.sz≤cur.size):∃w',(storeVar t a v).run P w= .ok () w'∧Stored w w' a cs:=by
 obtain ⟨cur,e,hh,hle⟩:=hh;obtain ⟨b,o,sp⟩:=a;simp only at hs hh hle;subst hs;have hst:=run_storeCells_at P b o e cs 0 cur w hh (by simp only[Nat.add_zero];omega) h1
 simp only[Nat.add_zero] at hst;refine ⟨w.setRow b (cur.toList.take o++cs++cur.toList.drop (o+cs.length)).toArray, ?_, ?_⟩
 ·unfold storeVar
  simp only[Sem.run_bind,ZT hT ht,Result.andThen_ok,hv,List.size_toArray,hl,ne_eq,not_true_eq_false,if_false];have hst':=hst;rw[hl] at hst'
  simpa using hst'
 ·refine ⟨rfl,rfl,rfl,by simp [World.setRow],fun k hk=>setRow_other w b k _ hk,cur,_,e,(0,0),hh,setRow_heap w b cur _ e _ hh, ?_,fun j=> ?_⟩
  ·simp;omega
  ·simp only[List.getElem?_toArray]
   rw[List.append_assoc];by_cases c1:j<o
   ·rw[List.getElem?_append_left (by simp;omega),List.getElem?_take,if_pos c1,if_neg (by omega)];simp
   ·rw[List.getElem?_append_right (by simp;omega)]
    have e1:(List.take o cur.toList).length=o:=by simp;omega
    rw[e1];by_cases c2:j<o+cs.length
    ·rw[List.getElem?_append_left (by omega),if_pos (by omega)]
    ·rw[List.getElem?_append_right (by omega),List.getElem?_drop,if_neg (by omega)]
     rw[show o+cs.length+(j - o - cs.length)=j by omega];simp
theorem ZfB {w:World} {a:Addr} {v:Value} {cs:List Value} (hv:v.cells=cs.toArray) (hl:cs.length=ty.sz) (hs:a.spot=none) (h1:∀u∈cs,u.oneCell'=true)
  (hh:∃cur e fr,w.heap[a.block]? =some (.cells cur e fr)∧(fr=(0,0)∨(ty.sz=1∧fr=(cur.size,cur.size+1)))∧a.off+ty.sz≤cur.size):∃w',(storeVar t a v).run P w= .ok () w'∧Stored w w' a cs:=by
 obtain ⟨cur,e,fr,hh,hfr,hle⟩:=hh;rcases hfr with rfl | ⟨hsz,rfl⟩
 ·exact Zim hT ht hv hl hs h1 ⟨cur,e,hh,hle⟩
 ·obtain ⟨b,o,sp⟩:=a
  simp only at hs hh hle;subst hs;obtain ⟨c,rfl⟩:∃c,cs=[c]:=by
   match cs,hl with
   | [c],_=>exact ⟨c,rfl⟩
   | [],hl=>simp at hl;omega
   | _::_::_,hl=>simp at hl;omega
  obtain ⟨hst,hS⟩:=Zil (P:=P) (w:=w) (b:=b) (o:=o) (h1 c (by simp)) hh (by omega) (.inr rfl);refine ⟨_, ?_,hS⟩;unfold storeVar;simp only[Sem.run_bind,ZT hT ht,Result.andThen_ok,hv,List.size_toArray,hl,ne_eq,not_true_eq_false,if_false];have hst':=hst
  simpa using hst'
end
variable {P:Program} {C:Ctx} {w0:World} {F0:List Nat} {T0:TypeId→Nat→Prop}
def Does (P:Program) (w0:World) (F0:List Nat) (T0:TypeId→Nat→Prop) (o:Oper) (a:Act) (w:World) (st':St):Prop:=
 (∃v w' E',(execOp a.eval o).run P w= .ok (.value v) w'∧Sim w0 F0 T0 E' st' (a.put o.dst v) w')∨
 (∃w' E',(execOp a.eval o).run P w= .ok .skip w'∧Sim w0 F0 T0 E' st' (a.put o.dst undef) w')∨
 (∃f args,(execOp a.eval o).run P w= .ok (.enter f args) w∧Calls P f args w fun e w'=>∃v E',e= .returned v∧Sim w0 F0 T0 E' st' (a.put o.dst v) w')
def PlanDoes (P:Program) (w0:World) (F0:List Nat) (T0:TypeId→Nat→Prop) (o:Oper) (st:St) (a:Act) (w:World):Plan→Prop
 | .go e=>Does P w0 F0 T0 o a w (e.apply o.dst st)
 | .chk b e=>b=true→Does P w0 F0 T0 o a w (e.apply o.dst st)
 | .call _ x mk=>∀r e,x=some r→mk r=some e→Does P w0 F0 T0 o a w (e.apply o.dst st)
theorem Does.value {o:Oper} {a:Act} {w w':World} {st':St} {v:Value} {E':Env} (h:(execOp a.eval o).run P w= .ok (.value v) w') (hs:Sim w0 F0 T0 E' st' (a.put o.dst v) w'):Does P w0 F0 T0 o a w st':= .inl ⟨v,w',E',h,hs⟩
theorem Does.pure {o:Oper} {a:Act} {w:World} {st:St} {E:Env} {v:Value} {r:Reg} (hS:Sim w0 F0 T0 E st a w) (h:(execOp a.eval o).run P w= .ok (.value v) w) (hr:RegOk E w (Tch T0 E st.blk w) st.blk r v):
  Does P w0 F0 T0 o a w (({ r:=r }:Eff).apply o.dst st):=Does.value h (hS.pure hr)
theorem ZaK {st:St} {b:Nat} {k:Blk} (h:st.blk b=some k):b<st.blks.length:=by
 rcases Nat.lt_or_ge b st.blks.length with h' | h'
 ·exact h'
 ·unfold St.blk at h;rw[Zb5 _ _ h'] at h;cases h
theorem Zj (st:St) (i:Nat):st.blk (st.blks.length+i)=none:=Zb5 _ _ (Nat.le_add_right _ _)
theorem Zen (f:Nat→Option Blk) {a b:Nat} (x y:Option Blk) (h:a≠b):setB (setB f a x) b y=setB (setB f b y) a x:=by
 funext i;simp only[setB]
 by_cases e1:i=b<;>by_cases e2:i=a
 ·subst e1;subst e2;exact absurd rfl h
 ·simp [e1,Ne.symm h]
 ·simp [e2,h]
 ·simp [e1,e2]
theorem ZO (f:Nat→Option Blk) (a:Nat) (x y:Option Blk):setB (setB f a x) a y=setB f a y:=by
 funext i;simp only[setB];by_cases e:i=a<;>simp [e]
theorem ZaO {f:Nat→Option Blk} {a:Nat} {x:Option Blk} (h:f a=x):setB f a x=f:=by
 funext i;simp only[setB];by_cases e:i=a
 ·subst e;simp [h]
 ·simp [e]
theorem Z4 {st:St} {U:List (Nat×Option Blk)} (hU:∀b o,(b,o)∈U→∃k,st.blk b=some k) (i:Nat):updF st.blk U (st.blks.length+i)=none:=by
 have:lookU U (st.blks.length+i)=none:=by
  induction U with
  | nil=>rfl
  | cons p U ih=>
   obtain ⟨c,o⟩:=p;simp only[lookU];rw[ih (fun b o h=>hU b o (List.mem_cons_of_mem _ h))];obtain ⟨k,hk⟩:=hU c o (by simp);have:=ZaK hk;simp;omega
 simp only[updF,this];exact Zj st i
theorem Zf6 (k:Kill) (r:Reg):killR k r=r∨killR k r= .undef:=by
 cases k<;>cases r<;>simp only[killR]<;>(repeat' split)<;>simp
theorem ZcF:∀(K:List Kill) (r:Reg),killL K r=r∨killL K r= .undef
 | [],_=> .inl rfl
 | k::K,r=>by
  simp only[killL];rcases Zf6 k r with h | h<;>rw[h]
  ·exact ZcF K r
  ·exact .inr (killL_undef K)
theorem Zl1 {E:Env} {w:World} {T:TypeId→Nat→Prop} {blk:Nat→Option Blk} {h:Nat} {r:Reg} {v:Value} (hh:blk h=none) (hr:RegOk E w T blk r v):killR (.all h) r=r:=by
 cases r with
 | vw b s => obtain ⟨k, _, hb, _⟩ := hr; have : b ≠ h := fun e => by rw [e, hh] at hb; cases hb
             simp [killR,this]
 | sl b s lo n => obtain ⟨k, _, _, _, _, hb, _⟩ := hr; have : b ≠ h := fun e => by rw [e, hh] at hb; cases hb
                  simp [killR,this]
 | ptr b s => obtain ⟨k, _, hb, _⟩ := hr; have : b ≠ h := fun e => by rw [e, hh] at hb; cases hb
              simp [killR,this]
 | tup b n => obtain ⟨k, hb, _⟩ := hr; have : b ≠ h := fun e => by rw [e, hh] at hb; cases hb
              simp [killR,this]
 | _=>rfl
theorem Carries.dropHand {K K2:List Kill} {h:Nat} {E w T blk E' w' T' blk'} (hh:blk h=none) (hc:Carries (K++(.all h::K2)) E w T blk E' w' T' blk'):Carries (K++K2) E w T blk E' w' T' blk':=by
 intro r v hr;have:=hc r v hr;rw[Zc8] at this ⊢;simp only[killL] at this;rcases ZcF K r with e | e
 ·rw[e] at this ⊢;rwa [Zl1 hh hr] at this
 ·rw[e] at this ⊢;simpa using this
theorem Zqt {E E1:Env} {st:St} {a:Act} {w:World} {d:Nat} {U:List (Nat×Option Blk)} {K:List Kill} {p:Perm} {t:Ty} {x:t.den} {e:TypeId} (hS:Sim w0 F0 T0 E st a w) (hfit:Fits st) (hd:d<st.regs.length)
  (hU:∀b o,(b,o)∈U→∃k,st.blk b=some k)
  (hm:Mem w0 F0 T0 E1 (setB (updF st.blk U) st.blks.length (some ⟨false,false,p,t,x⟩)) w)
  (hc:Carries K E w (Tch T0 E st.blk w) st.blk E1 w (Tch T0 E1 (setB (updF st.blk U) st.blks.length (some ⟨false,false,p,t,x⟩)) w) (setB (updF st.blk U) st.blks.length (some ⟨false,false,p,t,x⟩))):
  ∃E',Sim w0 F0 T0 E' (({ r:= .ptr d [],upd:=U++[(d,some ⟨true,false,p,t,x⟩)],kill:=K++[.all d] }:Eff).apply (some d) st) (a.put (some d) (.pointer (some ⟨w.heap.size,0,none⟩))) (w.alloc (.cells (cells t x (E1.g st.blks.length)).toArray e)):=by
 have hdN:st.blks.length≠d:=by rw[hfit.len];omega
 obtain ⟨E',g1,g2,g3,g4⟩:=hm.box (h:=st.blks.length) (d:=d) (setB_same _ _ _) rfl hdN e;have hfin:setB (setB (setB (updF st.blk U) st.blks.length (some ⟨false,false,p,t,x⟩)) st.blks.length none) d (some ⟨true,false,p,t,x⟩)=updF st.blk (U++[(d,some ⟨true,false,p,t,x⟩)]):=by
  rw[ZO,ZaO (f:=updF st.blk U) (a:=st.blks.length) (x:=none) (Z4 hU 0),ZN,Zq]
 rw[hfin] at g1 g2;refine ⟨E',hS.step (blk':=updF st.blk (U++[(d,some ⟨true,false,p,t,x⟩)])) (fun c o h=> ?_) rfl g1 ?_ ?_⟩
 ·rcases List.mem_append.1 h with h | h
  ·obtain ⟨k,hk⟩:=hU c o h;exact ZaK hk
  ·simp at h;rw[hfit.len];omega
 ·have c1:=Zm (E:=E1) (E':=E1) (w:=w) (w':=w) (T:=Tch T0 E1 (setB (updF st.blk U) st.blks.length (some ⟨false,false,p,t,x⟩)) w) (T':=Tch T0 E1 (setB (updF st.blk U) st.blks.length (some ⟨false,false,p,t,x⟩)) w) (blk:=setB (updF st.blk U) st.blks.length (some ⟨false,false,p,t,x⟩)) st.blks.length none (Kept.refl _ _) (fun _ _=>rfl) (fun _ _=>rfl)
  have c2:=Zm (E:=E1) (E':=E') (w:=w) (w':=w.alloc (.cells (cells t x (E1.g st.blks.length)).toArray e)) (blk:=setB (setB (updF st.blk U) st.blks.length (some ⟨false,false,p,t,x⟩)) st.blks.length none) d (some ⟨true,false,p,t,x⟩) g2 (fun i hi=>(g4 i hi).1) (fun i hi=>(g4 i hi).2)
  rw[hfin] at c2;exact Carries.dropHand (Zj st 0) (by simpa using (hc.trans c1).trans c2)
 ·refine ⟨⟨true,false,p,t,x⟩,⟨t,p,x⟩, ?_,Zp _ _ _,by cases t<;>trivial, .inl rfl, ?_⟩
  ·rw[ZN,Zq,setB_same]
  ·have:addrOf t (E'.g d) [] ⟨E'.base d,0,none⟩=⟨E'.base d,0,none⟩:=by cases t<;>rfl
   show _=Value.pointer (some (addrOf t (E'.g d) [] ⟨E'.base d,0,none⟩));rw[this,g3]
end
end Go.Rx

