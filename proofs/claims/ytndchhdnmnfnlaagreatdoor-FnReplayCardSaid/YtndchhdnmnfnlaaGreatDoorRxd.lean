/- This text proves laws about a reflected evaluator of Go code, part 4 of 5; no condition beyond those each theorem states. -/
import Derived.Handed
import Derived.Lib.AppendIntMem
import Derived.Lib.Atoi
import Derived.Lib.AtoiErrMem
import Derived.Lib.IndexAny
import Derived.Lib.IndexBytes
import Derived.Lib.ItoaLen
import Derived.Lib.Join
import Derived.Lib.LaidTab
import Derived.Lib.SplitLaws
import Derived.Lib.Strings
import Derived.LoopN
import Derived.ProofKit
import Derived.Scope
import Derived.Shelf.SlSortCmp.Kit1
import Derived.Shelf.Strconv.Itoa1
import Derived.Shelf.Strings.Cut
import Derived.Sort.LotA
import Derived.Test.YtndchhdnmnfnlaaGreatDoorRxc
set_option linter.unusedVariables false
set_option linter.unusedSimpArgs false
namespace Go.Rx
noncomputable section
open Go.RowKit
variable {P:Program} {C:Ctx} {w0:World} {F0:List Nat} {T0:TypeId→Nat→Prop}
theorem Zlf {α:Type}:∀(l:List α) (n:Nat) (d:α),setN l n (nth l n d)=l
 | [],_,_=>rfl
 | _::_,0,_=>rfl
 | _::l,n+1,d=>by simp [Zlf l n d]
theorem Zez {st:St} {c:Nat} {r:Reg} (h:st.reg c=r):st.put c r=st:=by
 subst h;show St.mk (setN st.regs c (nth st.regs c .undef)) st.blks=st;rw[Zlf]
theorem ZhS {R:Type} {r:R} {J:Act→Prop} {ops:Array Oper} [Laid P] (hC:CtxOk P C) (hT0:T0Ok P w0 F0 T0) {K:St→Option R} {Q:Exit→Act→World→Prop} {n:Nat}
  (hK:∀st' E' a' w',K st'=some r→Fits st'→st'.regs.length=n→J a'→Sim w0 F0 T0 E' st' a' w'→Q .normal a' w'):∀(l:List Oper) (i:Nat) (E:Env) (st:St) (a:Act) (w:World),(∀j,l[j]? =ops[i+j]?)→(∀o,o∈l→∀a v,J a→J (a.put o.dst v))→l.all (dstB n)=true→
  opsK C ops l st K=some r→J a→Sim w0 F0 T0 E st a w→Fits st→st.regs.length=n→wpOps P ops Q (List.range' i l.length) a w
 | [],i,E,st,a,w,_,_,_,h,hja,hS,hfit,hn=>hK _ E a w h hfit hn hja hS
 | o::l,i,E,st,a,w,hl,hJ,hd,h,hja,hS,hfit,hn=>by
  have h0:ops[i]? =some o:=by simpa using (hl 0).symm
  simp only[List.all_cons,Xh] at hd;have hstep:∀st1:St,st1=st→stepK C ops o st1 (fun st=>opsK C ops l st K)=some r→wpOp P ops Q i (wpOps P ops Q (List.range' (i+1) l.length)) a w:=fun st1 e h1=>by
   subst e
   exact Zkr hC hT0 hS hfit (by rw[hn];exact hd.1) h0 (fun v=>hJ o (by simp) a v hja) h1 (fun st' E' a' w' h2 hf2 hn2 hja2 hS2=>
    ZhS hC hT0 hK l (i+1) E' st' a' w' (fun j=>by have:=hl (j+1);simpa [Nat.add_assoc,Nat.add_comm 1 j] using this) (fun o' ho'=>hJ o' (List.mem_cons_of_mem _ ho')) hd.2 h2 hja2 hS2 hf2 (hn2.trans hn))
  simp only[List.length_cons,List.range'_succ];rw[wpOps_cons];simp only[opsK] at h;split at h
  ·exact hstep st rfl h
  ·rename_i c hc
   split at h
   case h_3=>cases h
   case h_2=>exact hstep st rfl h
   rename_i b hb;cases b with
   | true=>exact hstep _ (Zez hb) h
   | false=>exact hstep _ (Zez hb) h
def stepE (C:Ctx) {R:Type} (ops:Array Oper) (o:Oper) (st:St) (K:Eff→Option R):Option R:=
 let run:Unit→Option R:=fun _=>match plan C st o with
  | none=>none
  | some (.go e)=>K e
  | some (.chk b e)=>bif b then K e else none
  | some (.call _ x mk)=>x.bind fun r=>match mk r with | some e=>K e | none=>none
 match o.guard with
 | none=>run ()
 | some (j,want)=>match (ops[j]?).bind (·.dst) with
  | none=>none
  | some c=>match st.reg c with
   | .val .bool b=>match b==want with
    | true=>run ()
    | false=>K { r:= .no }
   | .no=>K { r:= .no }
   | _=>none
def rowB (r:Rec) (i:Nat):List Nat→List (Nat×Oper×Rec)→Bool
 | _,[]=>true
 | acc,(j,o,r')::l=>match o.after.any fun e=>Region.binds .any e && (e.on==i || acc.contains e.on) with
  | true=>rowB r i (j::acc) l
  | false=>pairB r r' && rowB r i acc l
def indepB:List (Nat×Oper×Rec)→Bool
 | []=>true
 | (i,_,r)::l=>rowB r i [] l && indepB l
def readyB (ops:Array Oper) (done:List Nat) (i:Nat):Bool:=match ops[i]? with
 | some o=>o.after.all fun e=> !Region.binds .any e || done.contains e.on
 | none=>false
def takeFirst (p:Nat→Bool):List Nat→Option (Nat×List Nat)
 | []=>none
 | i::l=>match p i with
  | true=>some (i,l)
  | false=>match takeFirst p l with
   | some (j,l')=>some (j,i::l')
   | none=>none
def ordGo (ops:Array Oper):Nat→List Nat→List Nat→List Nat
 | 0,_,_=>[]
 | n+1,done,rem=>match takeFirst (readyB ops done) rem with
  | some (i,rem')=>i::ordGo ops n (i::done) rem'
  | none=>[]
def upTo:Nat→List Nat→List Nat
 | 0,l=>l
 | n+1,l=>upTo n (n::l)
def ordOf (ops:Array Oper):List Nat:=ordGo ops ops.size [] (upTo ops.size [])
def okOrd (ops:Array Oper):List Nat→List Nat→Bool
 | seen,[]=>(upTo ops.size []).all fun i=>seen.contains i
 | seen,i::l=>decide (i<ops.size) && (!seen.contains i && (readyB ops seen i && okOrd ops (i::seen) l))
def opsAt (ops:Array Oper):List Nat→List (Nat×Oper)
 | []=>[]
 | i::l=>match ops[i]? with
  | some o=>(i,o)::opsAt ops l
  | none=>opsAt ops l
def drawGo (C:Ctx) {R:Type} (ops:Array Oper):List (Nat×Oper)→St→List (Nat×Oper×Rec)→(St→Option R)→Option R
 | [],st,acc,K=>match indepB acc.reverse with
  | true=>K st
  | false=>none
 | (i,o)::rest,st,acc,K=>match askOf ops o with
  | none=>stepE C ops o st fun e=>drawGo C ops rest (e.apply o.dst st) ((i,o,⟨o.dst,e,st,looks ops o,noBlk o,softOf C o st,touchOf o st⟩)::acc) K
  | some c=>match st.reg c with
   | .val .bool b=>bif b then stepE C ops o (st.put c (.val .bool true)) fun e=>drawGo C ops rest (e.apply o.dst (st.put c (.val .bool true))) ((i,o,⟨o.dst,e,st.put c (.val .bool true),looks ops o,noBlk o,softOf C o (st.put c (.val .bool true)),touchOf o (st.put c (.val .bool true))⟩)::acc) K
    else stepE C ops o (st.put c (.val .bool false)) fun e=>drawGo C ops rest (e.apply o.dst (st.put c (.val .bool false))) ((i,o,⟨o.dst,e,st.put c (.val .bool false),looks ops o,noBlk o,softOf C o (st.put c (.val .bool false)),touchOf o (st.put c (.val .bool false))⟩)::acc) K
   | .no=>stepE C ops o st fun e=>drawGo C ops rest (e.apply o.dst st) ((i,o,⟨o.dst,e,st,looks ops o,noBlk o,softOf C o st,touchOf o st⟩)::acc) K
   | _=>none
def drawK (C:Ctx) {R:Type} (ops:Array Oper) (st:St) (K:St→Option R):Option R:=
 match okOrd ops [] (ordOf ops) with
 | true=>drawGo C ops (opsAt ops (ordOf ops)) st [] K
 | false=>none
theorem Zlg:∀(n:Nat) (l:List Nat) (i:Nat),i∈upTo n l↔i<n∨i∈l
 | 0,l,i=>by simp [upTo]
 | n+1,l,i=>by
  simp only[upTo,Zlg n,List.mem_cons];constructor
  ·rintro (h | h | h)
   ·exact .inl (by omega)
   ·exact .inl (by omega)
   ·exact .inr h
  ·rintro (h | h)
   ·by_cases e:i=n
    ·exact .inr (.inl e)
    ·exact .inl (by omega)
   ·exact .inr (.inr h)
theorem Zjz {ops:Array Oper}:∀(l seen:List Nat),okOrd ops seen l=true→(∀i,i∈l→i<ops.size)∧l.Nodup∧(∀i,i∈l→i∉seen)∧(∀i,i<ops.size→i∈l∨i∈seen)∧
  (∀(m j:Nat),l[m]? =some j→∀(o:Oper),ops[j]? =some o→∀e,e∈o.after→Region.binds .any e=true→e.on∈seen∨∃k,k<m∧l[k]? =some e.on)
 | [],seen,h=>by
  simp only[okOrd,List.all_eq_true,List.contains_iff_mem] at h;exact ⟨fun i hi=>(by cases hi),by simp,fun i hi=>(by cases hi),fun i hi=> .inr (h i ((Zlg _ _ _).2 (.inl hi))),fun m j hm=>by simp at hm⟩
 | i::l,seen,h=>by
  simp only[okOrd,Xh,Xi,Bool.not_eq_true'] at h;obtain ⟨h1,h2,h3,h4⟩:=h;have hns:i∉seen:=fun hin=>by
   have:seen.contains i=true:=List.contains_iff_mem.2 hin;rw[h2] at this;cases this
  obtain ⟨g1,g2,g3,g4,g5⟩:=Zjz l (i::seen) h4;refine ⟨fun j hj=> ?_, ?_,fun j hj=> ?_,fun j hj=> ?_,fun m j hm o ho e he hb=> ?_⟩
  ·rcases List.mem_cons.1 hj with rfl | hj
   ·exact h1
   ·exact g1 j hj
  ·exact List.nodup_cons.2 ⟨fun hin=>g3 i hin (by simp),g2⟩
  ·rcases List.mem_cons.1 hj with rfl | hj
   ·exact hns
   ·exact fun hin=>g3 j hj (List.mem_cons_of_mem _ hin)
  ·rcases g4 j hj with h | h
   ·exact .inl (List.mem_cons_of_mem _ h)
   ·rcases List.mem_cons.1 h with rfl | h
    ·exact .inl (by simp)
    ·exact .inr h
  ·cases m with
   | zero=>
    simp at hm;subst hm;unfold readyB at h3;rw[ho] at h3;have:=Array.all_eq_true'.1 h3 e he;simp only[hb,Bool.not_true,Bool.false_or,List.contains_iff_mem] at this;exact .inl this
   | succ m=>
    rcases g5 m j (by simpa using hm) o ho e he hb with h | ⟨k,hk,hk2⟩
    ·rcases List.mem_cons.1 h with h | h
     ·exact .inr ⟨0,by omega,by simp [h]⟩
     ·exact .inl h
    ·exact .inr ⟨k+1,by omega,by simpa using hk2⟩
theorem ZjA {ops:Array Oper}:∀(l:List Nat),(∀i,i∈l→i<ops.size)→(opsAt ops l).length=l.length∧∀(k i:Nat) (o:Oper),l[k]? =some i→ops[i]? =some o→(opsAt ops l)[k]? =some (i,o)
 | [],_=>⟨rfl,fun k i o h=>by simp at h⟩
 | i::l,h=>by
  have hlt:i<ops.size:=h i (by simp);have hi:ops[i]? =some ops[i]:=Array.getElem?_eq_getElem hlt;obtain ⟨h1,h2⟩:=ZjA l (fun j hj=>h j (List.mem_cons_of_mem _ hj))
  simp only[opsAt,hi];refine ⟨by simp [h1],fun k j o hk ho=> ?_⟩;cases k with
  | zero=>simp at hk;subst hk;rw[hi] at ho;cases ho;simp
  | succ k=>simpa using h2 k j o (by simpa using hk) ho
theorem ZgJ {ops:Array Oper}:∀ {l:List Nat} {x:Nat×Oper},x∈opsAt ops l→ops[x.1]? =some x.2
 | [],x,h=>by cases h
 | i::l,x,h=>by
  simp only[opsAt] at h;split at h
  ·rename_i o ho
   rcases List.mem_cons.1 h with rfl | h
   ·exact ho
   ·exact ZgJ h
  ·exact ZgJ h
theorem ZmY {R:Type} {r:R} {ops:Array Oper} {o:Oper} {st:St} {K:Eff→Option R} (h:stepE C ops o st K=some r):∃e,Goes C ops o st e∧K e=some r:=by
 unfold stepE at h;simp only at h;have hrun:(match plan C st o with | none=>none | some (.go e)=>K e | some (.chk b e)=>bif b then K e else none | some (.call _ x mk)=>x.bind fun r=>match mk r with | some e=>K e | none=>none)=some r→∃e,(∃pl,plan C st o=some pl∧Gives pl e)∧K e=some r:=fun hk=>by
  cases hp:plan C st o with
  | none=>rw[hp] at hk;cases hk
  | some pl=>
   rw[hp] at hk;cases pl with
   | go e=>exact ⟨e,⟨_,rfl,rfl⟩,hk⟩
   | chk b e=>cases b with
    | true=>exact ⟨e,⟨_,rfl,rfl,rfl⟩,hk⟩
    | false=>cases hk
   | call ρ x mk=>
    cases x with
    | none=>cases hk
    | some y=>
     simp only[Xa] at hk;cases hm:mk y with
     | none=>rw[hm] at hk;cases hk
     | some e=>rw[hm] at hk;exact ⟨e,⟨_,rfl,y,rfl,hm⟩,hk⟩
 cases hg:o.guard with
 | none=>
  rw[hg] at h;obtain ⟨e,h1,h2⟩:=hrun h;exact ⟨e,by unfold Goes;rw[hg];exact h1,h2⟩
 | some jw=>
  obtain ⟨j,want⟩:=jw;rw[hg] at h;simp only at h;split at h
  case h_1=>cases h
  rename_i c hc;split at h
  case h_3=>cases h
  case h_2 hb=>exact ⟨{ r:= .no },by unfold Goes;rw[hg];exact ⟨c,hc, .inr ⟨hb,rfl⟩⟩,h⟩
  rename_i b hb;cases hbw:(b==want) with
  | true=>
   rw[hbw] at h;obtain ⟨e,h1,h2⟩:=hrun h;exact ⟨e,by unfold Goes;rw[hg];exact ⟨c,hc, .inl ⟨b,hb, .inl ⟨by simpa using hbw,h1⟩⟩⟩,h2⟩
  | false=>
   rw[hbw] at h;exact ⟨{ r:= .no },by unfold Goes;rw[hg];exact ⟨c,hc, .inl ⟨b,hb, .inr ⟨by simpa using hbw,rfl⟩⟩⟩,h⟩
def zip3:List (Nat×Oper)→List Rec→List (Nat×Oper×Rec)
 | (i,o)::l,r::rs=>(i,o,r)::zip3 l rs
 | _,_=>[]
theorem ZiB:∀ {l:List (Nat×Oper)} {rs:List Rec} {k i:Nat} {o:Oper} {r:Rec},l[k]? =some (i,o)→rs[k]? =some r→(zip3 l rs)[k]? =some (i,o,r)
 | [],_,k,_,_,_,h,_=>by simp at h
 | (i0,o0)::l,[],k,_,_,_,_,h=>by simp at h
 | (i0,o0)::l,r0::rs,0,i,o,r,h,h'=>by simp at h h';obtain ⟨rfl,rfl⟩:=h;subst h';simp [zip3]
 | (i0,o0)::l,r0::rs,k+1,i,o,r,h,h'=>by
  simp only[zip3,List.getElem?_cons_succ] at h h' ⊢;exact ZiB h h'
theorem Zlh:∀ {l:List (Nat×Oper)} {rs:List Rec} {x:Nat×Oper×Rec},x∈zip3 l rs→(x.1,x.2.1)∈l
 | [],_,x,h=>by simp [zip3] at h
 | (i0,o0)::l,[],x,h=>by simp [zip3] at h
 | (i0,o0)::l,r0::rs,x,h=>by
  simp only[zip3,List.mem_cons] at h;rcases h with rfl | h
  ·simp
  ·exact List.mem_cons_of_mem _ (Zlh h)
theorem ZhT {R:Type} {r:R} {ops:Array Oper} {K:St→Option R}:∀(l:List (Nat×Oper)) (st:St) (acc:List (Nat×Oper×Rec)),drawGo C ops l st acc K=some r→
  ∃rs:List Rec,rs.length=l.length∧(∀(k i:Nat) (q:Rec) (o:Oper),rs[k]? =some q→l[k]? =some (i,o)→q.dst=o.dst∧(q.reads=looks ops o∧q.nb=noBlk o∧q.soft=softOf C o q.st∧Keeps q)∧q.st=seqS (rs.take k) st∧Goes C ops o q.st q.e)∧indepB (acc.reverse++zip3 l rs)=true∧K (seqS rs st)=some r
 | [],st,acc,h=>by
  simp only[drawGo] at h;split at h
  ·rename_i hi
   exact ⟨[],rfl,by simp,by simpa [zip3] using hi,h⟩
  ·cases h
 | (i0,o)::l,st,acc,h=>by
  have hgo:∀st1:St,st1=st→(stepE C ops o st1 fun e=>drawGo C ops l (e.apply o.dst st1) ((i0,o,⟨o.dst,e,st1,looks ops o,noBlk o,softOf C o st1,touchOf o st1⟩)::acc) K)=some r→
    ∃rs:List Rec,rs.length=((i0,o)::l).length∧(∀(k i:Nat) (q:Rec) (o':Oper),rs[k]? =some q→((i0,o)::l)[k]? =some (i,o')→q.dst=o'.dst∧(q.reads=looks ops o'∧q.nb=noBlk o'∧q.soft=softOf C o' q.st∧Keeps q)∧q.st=seqS (rs.take k) st∧Goes C ops o' q.st q.e)∧indepB (acc.reverse++zip3 ((i0,o)::l) rs)=true∧K (seqS rs st)=some r:=fun st1 e1 h1=>by
   subst e1;obtain ⟨e,g1,g2⟩:=ZmY h1;obtain ⟨rs,q1,q2,q3,q4⟩:=ZhT l _ _ g2;refine ⟨⟨o.dst,e,st1,looks ops o,noBlk o,softOf C o st1,touchOf o st1⟩::rs,by simp [q1],fun k i q o' hq ho=> ?_,by simpa [zip3] using q3,q4⟩;cases k with
   | zero=>
    simp at hq ho;obtain ⟨_,rfl⟩:=ho;subst hq;exact ⟨rfl,⟨rfl,rfl,rfl,Zkw g1 _ _ _ _⟩,rfl,g1⟩
   | succ k=>
    obtain ⟨a1,a2,a3,a4⟩:=q2 k i q o' (by simpa using hq) (by simpa using ho);exact ⟨a1,a2,a3,a4⟩
  simp only[drawGo] at h;split at h
  ·exact hgo st rfl h
  ·rename_i c hc
   split at h
   case h_3=>cases h
   case h_2=>exact hgo st rfl h
   rename_i b hb;cases b with
   | true=>exact hgo _ (Zez hb) h
   | false=>exact hgo _ (Zez hb) h
theorem ZiC {ops:Array Oper} {r:Rec} {i:Nat}:∀ {l:List (Nat×Oper×Rec)} {acc:List Nat},(∀q,q∈acc→∃oq,ops[q]? =some oq∧Behind ops i oq)→(∀x,x∈l→ops[x.1]? =some x.2.1)→rowB r i acc l=true→∀x,x∈l→Behind ops i x.2.1∨pairB r x.2.2=true
 | [],_,_,_,_,x,hx=>by cases hx
 | (j,o0,r0)::l,acc,ha,hl,h,x,hx=>by
  have hl':∀x,x∈l→ops[x.1]? =some x.2.1:=fun x hx=>hl x (List.mem_cons_of_mem _ hx)
  have h0:ops[j]? =some o0:=hl (j,o0,r0) (by simp);simp only[rowB] at h;cases hb:(o0.after.any fun e=>Region.binds .any e && (e.on==i || acc.contains e.on)) with
  | true=>
   rw[hb] at h;have hr:Behind ops i o0∨∃e,e∈o0.after∧Region.binds .any e=true∧e.on∈acc:=by
    obtain ⟨e,he,hbe⟩:=Array.any_eq_true'.1 hb;simp only[Xh,Bool.or_eq_true,beq_iff_eq,List.contains_iff_mem] at hbe;rcases hbe.2 with h1 | h1
    ·exact .inl (.one he hbe.1 h1)
    ·exact .inr ⟨e,he,hbe.1,h1⟩
   have h1:Behind ops i o0:=by
    rcases hr with h1 | ⟨e,he,hbe,h1⟩
    ·exact h1
    ·obtain ⟨o1,ho,hr1⟩:=ha _ h1
     exact .more he hbe ho hr1
   rcases List.mem_cons.1 hx with rfl | hx
   ·exact .inl h1
   ·refine ZiC (fun q hq=> ?_) hl' h x hx
    rcases List.mem_cons.1 hq with rfl | hq
    ·exact ⟨o0,h0,h1⟩
    ·exact ha q hq
  | false=>
   rw[hb] at h;simp only[Xh] at h;rcases List.mem_cons.1 hx with rfl | hx
   ·exact .inr h.1
   ·exact ZiC ha hl' h.2 x hx
theorem ZhU {ops:Array Oper}:∀ {l:List (Nat×Oper×Rec)},(∀x,x∈l→ops[x.1]? =some x.2.1)→indepB l=true→∀(k m:Nat) (x y:Nat×Oper×Rec),k<m→l[k]? =some x→l[m]? =some y→Behind ops x.1 y.2.1∨pairB x.2.2 y.2.2=true
 | [],_,_,k,m,x,y,_,hx,_=>by simp at hx
 | (i0,o0,r0)::l,hl,h,k,m,x,y,hkm,hx,hy=>by
  simp only[indepB,Xh] at h;have hl':∀x,x∈l→ops[x.1]? =some x.2.1:=fun x hx=>hl x (List.mem_cons_of_mem _ hx)
  obtain ⟨m,rfl⟩:∃m',m=m'+1:=⟨m - 1,by omega⟩
  cases k with
  | zero=>
   simp at hx;subst hx;exact ZiC (fun q hq=>by cases hq) hl' h.1 y (List.mem_of_getElem? (by simpa using hy))
  | succ k=>exact ZhU hl' h.2 k m x y (by omega) (by simpa using hx) (by simpa using hy)
theorem Sim.drew {E:Env} {st:St} {a:Act} {w:World} (hS:Sim w0 F0 T0 E st a w):Sim w0 F0 T0 E st a { w with drawn:=w.drawn+1 }:=by
 obtain ⟨m1,k1⟩:=hS.mem.redo (w':={ w with drawn:=w.drawn+1 }) (E':=E) (blk':=st.blk) (fun _=>False) (fun i _=>⟨rfl,rfl,rfl⟩) (fun i h=>h.elim) (fun i h=>h.elim) (fun i _ _ h=>h.elim) rfl rfl rfl (Xl _) (fun _ _ _=>rfl) (fun _ i k h=>h.elim);exact ⟨fun t=>Zbo k1 _ _ (hS.regs t),hS.size,hS.defers,m1⟩
theorem Zky {R:Type} {r:R} {J:Act→Prop} {id:Nat} {ops:Array Oper} [Laid P] (hC:CtxOk P C) (hT0:T0Ok P w0 F0 T0) {K:St→Option R} {Q:Exit→Act→World→Prop} {n:Nat}
  (hK:∀st' E' a' w',K st'=some r→Fits st'→st'.regs.length=n→J a'→Sim w0 F0 T0 E' st' a' w'→Q .normal a' w') {E:Env} {st:St} {a:Act} {w:World} (hJ:∀o,o∈ops.toList→∀a v,J a→J (a.put o.dst v)) (hja:J a) (hd:ops.toList.all (dstB n)=true) (h:drawK C ops st K=some r) (hS:Sim w0 F0 T0 E st a w) (hfit:Fits st) (hn:st.regs.length=n):
  (Code.region id ops true).wp P Q a w:=by
 unfold drawK at h;split at h
 case h_2=>cases h
 rename_i hord;obtain ⟨o1,o2,_,o4,o5⟩:=Zjz (ordOf ops) [] hord;obtain ⟨rs,q1,q2,q3,q4⟩:=ZhT (opsAt ops (ordOf ops)) st [] h;obtain ⟨p1,p2⟩:=ZjA (ordOf ops) o1;have hat:∀(k i:Nat) (o:Oper),(ordOf ops)[k]? =some i→ops[i]? =some o→(opsAt ops (ordOf ops))[k]? =some (i,o):=p2
 have hD:Drawn C ops st (ordOf ops) rs:=by
  refine ⟨by rw[q1,p1],o2,fun i hi=>(o4 i hi).resolve_right (by simp),fun k i hk=>o1 i (List.mem_of_getElem? hk),fun k i q o hq hi ho=>q2 k i q o hq (hat k i o hi ho),fun k m i j ri rj oj hkm hi hj hri hrj hoj=> ?_,fun m j oj hj hoj e he hb=>(o5 m j hj oj hoj e he hb).resolve_left (by simp),fun j oj hoj=> ?_⟩
  ·have hlt:i<ops.size:=o1 i (List.mem_of_getElem? hi)
   have hoi:ops[i]? =some ops[i]:=Array.getElem?_eq_getElem hlt;exact ZhU (l:=zip3 (opsAt ops (ordOf ops)) rs) (fun x hx=>ZgJ (Zlh hx)) (by simpa using q3) k m _ _ hkm (ZiB (hat k i _ hi hoi) hri) (ZiB (hat m j oj hj hoj) hrj)
  ·rw[hn]
   exact List.all_eq_true.1 hd oj (by have:=(Array.getElem?_eq_some_iff.1 hoj);obtain ⟨h1,h2⟩:=this;rw[←h2];simp)
 have hlen:∀(l:List Rec) (s:St),(seqS l s).regs.length=s.regs.length∧(seqS l s).blks.length=s.blks.length:=fun l s=>by
  have:=Zga l (fun _=>true) 0 s
  rwa [Zgb _ _ 0 s (fun _ _ _=>rfl)] at this
 refine wp_region_any hC.mixed ?_;refine ZmX (J:=J) hC hT0 hD hfit (fun i o ho=>hJ o (by obtain ⟨h1,h2⟩:=Array.getElem?_eq_some_iff.1 ho;rw[←h2];simp)) (fun E' a' w' hja' hS'=>hK _ E' a' w' q4 ⟨by rw[(hlen rs st).1,(hlen rs st).2];exact hfit.len⟩ (by rw[(hlen rs st).1];exact hn) hja' hS') ops.size _ E a _ ⟨by simp,fun j oj _ hl=>(by rw[getD_replicate_false] at hl;cases hl)⟩ ?_ hja ?_
 ·have:=List.countP_le_length (p:=fun k=> !(Array.replicate ops.size false).getD k false) (l:=List.range ops.size)
  simpa using this
 ·have:runS rs (fun k=>(Array.replicate ops.size false).getD ((ordOf ops).getD k 0) false) 0 st=st:=Zjw rs _ 0 st (fun k=>getD_replicate_false _ _)
  rw[this];exact hS.drew
def regionK (C:Ctx) {R:Type} (ops:Array Oper) (draw:Bool) (st:St) (K:St→Option R):Option R:=
 if ops.toList.all (dstB st.regs.length)=true then (match draw with
  | true=>drawK C ops st K
  | false=>opsK C ops ops.toList st K) else none
theorem ZeA {R:Type} {r:R} {J:Act→Prop} {id:Nat} {ops:Array Oper} {draw:Bool} [Laid P] (hC:CtxOk P C) (hT0:T0Ok P w0 F0 T0) {K:St→Option R} {Q:Exit→Act→World→Prop} {n:Nat}
  (hK:∀st' E' a' w',K st'=some r→Fits st'→st'.regs.length=n→J a'→Sim w0 F0 T0 E' st' a' w'→Q .normal a' w') {E:Env} {st:St} {a:Act} {w:World} (hJ:∀o,o∈ops.toList→∀a v,J a→J (a.put o.dst v)) (hja:J a) (h:regionK C ops draw st K=some r) (hS:Sim w0 F0 T0 E st a w) (hfit:Fits st) (hn:st.regs.length=n):
  (Code.region id ops draw).wp P Q a w:=by
 unfold regionK at h;split at h
 case isFalse=>cases h
 rename_i hd;rw[hn] at hd;cases draw with
 | false=>
  have:=ZhS hC hT0 hK ops.toList 0 E st a w (fun j=>by simp) hJ hd h hja hS hfit hn;refine wp_region ?_;rw[List.range_eq_range']
  simpa using this
 | true=>exact Zky hC hT0 hK hJ hja hd h hS hfit hn
end
end Go.Rx
namespace Go.Rx
noncomputable section
open Go.RowKit
variable {P:Program} {C:Ctx} {w0:World} {F0:List Nat} {T0:TypeId→Nat→Prop}
inductive H where
 | nil
 | node (j:Option Shape) (a b:H)
def H.j:H→Option Shape | .node j _ _=>j | .nil=>none
def H.l:H→H | .node _ a _=>a | .nil=> .nil
def H.r:H→H | .node _ _ b=>b | .nil=> .nil
def joinK {V R:Type} (k:V→Option R) (m:(V→Option R)→Option R):Option R:=m k
def iterK {V R:Type}:Nat→((V→Option R)→V→Option R)→V→Option R
 | 0,_,_=>none
 | n+1,f,v=>f (iterK n f) v
def into {R:Type} (sh:Shape) (k:sh.den→Option R) (st:St):Option R:=match toShape sh st with | some v=>k v | none=>none
def lit (st:St) (c:Operand) (b:Bool):St:=match c with | .tmp t=>st.put t (.val .bool b) | _=>st
def evalK (C:Ctx) (N:Nat) {R:Type}:H→Code→St→(St→Option R)→(Nat→St→Option R)→(St→Option R)→Option R
 | _, .skip,st,kn,_,_=>kn st
 | h, .region _ ops draw,st,kn,_,_=>match h.j with
  | none=>regionK C ops draw st kn
  | some sh=>joinK (fun v=>kn (mkSt sh v)) fun k=>regionK C ops draw st (into sh k)
 | h, .seq a b,st,kn,ke,kr=>evalK C N h.l a st (fun st=>evalK C N h.r b st kn ke kr) ke kr
 | h, .cond c a b,st,kn,ke,kr=>match st.opd c with
  | .val .bool t=>match h.j with
   | none=>bif t then evalK C N h.l a (lit st c true) kn ke kr else evalK C N h.r b (lit st c false) kn ke kr
   | some sh=>joinK (fun v=>kn (mkSt sh v)) fun k=>bif t then evalK C N h.l a (lit st c true) (into sh k) ke kr else evalK C N h.r b (lit st c false) (into sh k) ke kr
  | _=>none
 | h, .block id c,st,kn,ke,kr=>match h.j with
  | none=>evalK C N h.l c st kn (fun i st=>if i=id then kn st else ke i st) kr
  | some sh=>joinK (fun v=>kn (mkSt sh v)) fun k=>evalK C N h.l c st (into sh k) (fun i st=>if i=id then into sh k st else ke i st) kr
 | h, .loop c,st,_,ke,kr=>match h.j with
  | none=>match h.r.j with
   | none=>none
   | some sh=>evalK C N h.l c st (into sh (iterK N fun k v=>evalK C N h.r.l c (mkSt sh v) (into sh k) ke kr)) ke kr
  | some sh=>into sh (iterK N fun k v=>evalK C N h.l c (mkSt sh v) (into sh k) ke kr) st
 | h, .scope c,st,kn,ke,kr=>evalK C N h.l c st kn ke kr
 | _, .exit id,st,_,ke,_=>ke id st
 | _, .ret,st,_,_,kr=>kr st
 | _,_,_,_,_,_=>none
def okJ (J:Act→Prop):Code→Prop
 | .region _ ops _=>∀o,o∈ops.toList→∀a v,J a→J (a.put o.dst v)
 | .seq a b=>okJ J a∧okJ J b
 | .cond _ a b=>okJ J a∧okJ J b
 | .block _ c=>okJ J c
 | .loop c=>okJ J c
 | .scope c=>okJ J c
 | _=>True
def QK {R:Type} (J:Act→Prop) (w0:World) (F0:List Nat) (T0:TypeId→Nat→Prop) (n:Nat) (r:R) (kn:St→Option R) (ke:Nat→St→Option R) (kr:St→Option R):Exit→Act→World→Prop
 | .normal,a,w=>∃st E,kn st=some r∧Fits st∧st.regs.length=n∧J a∧Sim w0 F0 T0 E st a w
 | .exit i,a,w=>∃st E,ke i st=some r∧Fits st∧st.regs.length=n∧J a∧Sim w0 F0 T0 E st a w
 | .ret,a,w=>∃st E,kr st=some r∧Fits st∧st.regs.length=n∧J a∧Sim w0 F0 T0 E st a w
 | _,_,_=>False
theorem ZdE {R:Type} {r:R} {sh:Shape} {k:sh.den→Option R} {E:Env} {st:St} {a:Act} {w:World} (hT0:∀(e:TypeId) k,w0.heap.size≤k∨k∈F0→T0 e k) (hS:Sim w0 F0 T0 E st a w) (h:into sh k st=some r):
  ∃v E',k v=some r∧Sim w0 F0 T0 E' (mkSt sh v) a w∧Fits (mkSt sh v)∧(mkSt sh v).regs.length=st.regs.length:=by
 unfold into at h;split at h
 case h_2=>cases h
 rename_i v hv;obtain ⟨⟨E',h1⟩,h2,h3⟩:=Ziy hT0 hS hv;exact ⟨v,E',h,h1,h2,h3⟩
theorem Zat {R:Type} {r:R} {J:Act→Prop} {n N:Nat} [Laid P] (hC:CtxOk P C) (hT0:T0Ok P w0 F0 T0):∀(c:Code) (h:H) (st:St) (kn:St→Option R) (ke:Nat→St→Option R) (kr:St→Option R) (E:Env) (a:Act) (w:World),
  okJ J c→evalK C N h c st kn ke kr=some r→J a→Sim w0 F0 T0 E st a w→Fits st→st.regs.length=n→c.wp P (QK J w0 F0 T0 n r kn ke kr) a w
 | .skip,h,st,kn,ke,kr,E,a,w,hok,he,hj,hS,hf,hn=>wp_skip ⟨st,E,by simpa [evalK] using he,hf,hn,hj,hS⟩
 | .region id ops draw,h,st,kn,ke,kr,E,a,w,hok,he,hj,hS,hf,hn=>by
  simp only[evalK] at he;split at he
  ·exact ZeA hC hT0 (fun st' E' a' w' h1 h2 h3 hj' h4=>⟨st',E',h1,h2,h3,hj',h4⟩) hok hj he hS hf hn
  ·rename_i sh _
   refine ZeA hC hT0 (K:=into sh fun v=>kn (mkSt sh v)) (fun st' E' a' w' h1 h2 h3 hj' h4=> ?_) hok hj he hS hf hn
   obtain ⟨v,E2,g1,g2,g3,g4⟩:=ZdE hT0.1 h4 h1;exact ⟨_,E2,g1,g3,g4.trans h3,hj',g2⟩
 | .seq x y,h,st,kn,ke,kr,E,a,w,hok,he,hj,hS,hf,hn=>by
  simp only[evalK] at he;refine wp_seq (wp_mono (Zat hC hT0 x h.l st _ ke kr E a w hok.1 he hj hS hf hn) fun e a' w' hq=> ?_)
  cases e with
  | normal=>
   obtain ⟨st',E',h1,h2,h3,hj',h4⟩:=hq;exact Zat hC hT0 y h.r st' kn ke kr E' a' w' hok.2 h1 hj' h4 h2 h3
  | _=>exact hq
 | .cond c x y,h,st,kn,ke,kr,E,a,w,hok,he,hj,hS,hf,hn=>by
  simp only[evalK] at he;split at he
  case h_2=>cases he
  rename_i t ht;have hc:=Zr hS c;rw[ht] at hc;have hv:=Zeo hc;have hlit:∀b,t=b→lit st c b=st:=fun b hb=>by
   subst hb;unfold lit;split
   ·exact Zez ht
   ·rfl
  have hmain:∀(kn':St→Option R),(∀st' E' a' w',kn' st'=some r→Fits st'→st'.regs.length=n→J a'→Sim w0 F0 T0 E' st' a' w'→QK J w0 F0 T0 n r kn ke kr .normal a' w')→
    (bif t then evalK C N h.l x (lit st c true) kn' ke kr else evalK C N h.r y (lit st c false) kn' ke kr)=some r→(Code.cond c x y).wp P (QK J w0 F0 T0 n r kn ke kr) a w:=fun kn' hkn hb=>by
   have hw:(if t then x else y).wp P (QK J w0 F0 T0 n r kn' ke kr) a w:=by
    cases t with
    | true=>rw[hlit true rfl] at hb;exact Zat hC hT0 x h.l st kn' ke kr E a w hok.1 hb hj hS hf hn
    | false=>rw[hlit false rfl] at hb;exact Zat hC hT0 y h.r st kn' ke kr E a w hok.2 hb hj hS hf hn
   refine wp_cond hv (wp_mono hw fun e a' w' hq=> ?_);cases e with
   | normal=>obtain ⟨st',E',h1,h2,h3,hj',h4⟩:=hq;exact hkn st' E' a' w' h1 h2 h3 hj' h4
   | _=>exact hq
  split at he
  ·exact hmain kn (fun st' E' a' w' h1 h2 h3 hj' h4=>⟨st',E',h1,h2,h3,hj',h4⟩) he
  ·rename_i sh _
   refine hmain (into sh fun v=>kn (mkSt sh v)) (fun st' E' a' w' h1 h2 h3 hj' h4=> ?_) he
   obtain ⟨v,E2,g1,g2,g3,g4⟩:=ZdE hT0.1 h4 h1;exact ⟨_,E2,g1,g3,g4.trans h3,hj',g2⟩
 | .block id c,h,st,kn,ke,kr,E,a,w,hok,he,hj,hS,hf,hn=>by
  simp only[evalK] at he
  have hmain:∀(kn':St→Option R),(∀st' E' a' w',kn' st'=some r→Fits st'→st'.regs.length=n→J a'→Sim w0 F0 T0 E' st' a' w'→QK J w0 F0 T0 n r kn ke kr .normal a' w')→
    evalK C N h.l c st kn' (fun i st=>if i=id then kn' st else ke i st) kr=some r→(Code.block id c).wp P (QK J w0 F0 T0 n r kn ke kr) a w:=fun kn' hkn hb=>by
   refine wp_block (wp_mono (Zat hC hT0 c h.l st kn' _ kr E a w hok hb hj hS hf hn) fun e a' w' hq=> ?_)
   cases e with
   | normal=>obtain ⟨st',E',h1,h2,h3,hj',h4⟩:=hq;exact hkn st' E' a' w' h1 h2 h3 hj' h4
   | exit i=>
    obtain ⟨st',E',h1',h2,h3,hj',h4⟩:=hq;have h1:(if i=id then kn' st' else ke i st')=some r:=h1';show if i=id then _ else _
    by_cases hi:i=id
    ·rw[if_pos hi] at h1 ⊢;exact hkn st' E' a' w' h1 h2 h3 hj' h4
    ·rw[if_neg hi] at h1 ⊢;exact ⟨st',E',h1,h2,h3,hj',h4⟩
   | _=>exact hq
  split at he
  ·exact hmain kn (fun st' E' a' w' h1 h2 h3 hj' h4=>⟨st',E',h1,h2,h3,hj',h4⟩) he
  ·rename_i sh _
   refine hmain (into sh fun v=>kn (mkSt sh v)) (fun st' E' a' w' h1 h2 h3 hj' h4=> ?_) he
   obtain ⟨v,E2,g1,g2,g3,g4⟩:=ZdE hT0.1 h4 h1;exact ⟨_,E2,g1,g3,g4.trans h3,hj',g2⟩
 | .loop c,h,st,kn,ke,kr,E,a,w,hok,he,hj,hS,hf,hn=>by
  simp only[evalK] at he
  have key:∀(h2:H) (sh:Shape) (m:Nat) (v:sh.den) (E1:Env) (a1:Act) (w1:World),iterK m (fun k v=>evalK C N h2 c (mkSt sh v) (into sh k) ke kr) v=some r→J a1→Sim w0 F0 T0 E1 (mkSt sh v) a1 w1→(mkSt sh v).regs.length=n→
    Code.rounds P c (QK J w0 F0 T0 n r kn ke kr) m a1 w1:=by
   intro h2 sh m
   induction m with
   | zero=>intro v E1 a1 w1 hv;cases hv
   | succ m ih=>
    intro v E1 a1 w1 hv hj1 hS1 hn1;simp only[iterK] at hv;rw[rounds_succ];refine wp_mono (Zat hC hT0 c h2 (mkSt sh v) _ ke kr E1 a1 w1 hok hv hj1 hS1 (Zjs _ _) hn1) fun e a' w' hq=> ?_
    cases e with
    | normal=>
     obtain ⟨st',E',g1,g2,g3,hj',g4⟩:=hq;obtain ⟨v',E2,q1,q2,q3,q4⟩:=ZdE hT0.1 g4 g1;exact ih v' E2 a' w' q1 hj' q2 (q4.trans g3)
    | _=>exact hq
  split at he
  ·split at he
   ·cases he
   ·rename_i sh _
    refine wp_loop_rounds (N+1) ?_;rw[rounds_succ];refine wp_mono (Zat hC hT0 c h.l st _ ke kr E a w hok he hj hS hf hn) fun e a' w' hq=> ?_
    cases e with
    | normal=>
     obtain ⟨st',E',g1,g2,g3,hj',g4⟩:=hq;obtain ⟨v',E2,q1,q2,q3,q4⟩:=ZdE hT0.1 g4 g1;exact key h.r.l sh N v' E2 a' w' q1 hj' q2 (q4.trans g3)
    | _=>exact hq
  ·rename_i sh _
   obtain ⟨v0,E0,h1,h2,h3,h4⟩:=ZdE hT0.1 hS he;refine wp_loop_rounds N ?_;exact key h.l sh N v0 E0 a w h1 hj h2 (h4.trans hn)
 | .scope c,h,st,kn,ke,kr,E,a,w,hok,he,hj,hS,hf,hn=>by
  simp only[evalK] at he;refine wp_scope_straight (wp_mono (Zat hC hT0 c h.l st kn ke kr E a w hok he hj hS hf hn) fun e a' w' hq=> ?_)
  cases e<;>first | exact hq | exact hq.elim
 | .exit id,h,st,kn,ke,kr,E,a,w,hok,he,hj,hS,hf,hn=>wp_exit ⟨st,E,by simpa [evalK] using he,hf,hn,hj,hS⟩
 | .ret,h,st,kn,ke,kr,E,a,w,hok,he,hj,hS,hf,hn=>wp_ret ⟨st,E,by simpa [evalK] using he,hf,hn,hj,hS⟩
 | .label _,h,st,kn,ke,kr,E,a,w,hok,he,hj,hS,hf,hn=>by simp [evalK] at he
 | .goto _,h,st,kn,ke,kr,E,a,w,hok,he,hj,hS,hf,hn=>by simp [evalK] at he
 | .rangeFunc ..,h,st,kn,ke,kr,E,a,w,hok,he,hj,hS,hf,hn=>by simp [evalK] at he
end
end Go.Rx
namespace Go.Rx
noncomputable section
open Go.RowKit
variable {P:Program} {C:Ctx} {w0:World} {F0:List Nat} {T0:TypeId→Nat→Prop}
theorem Zcf:∀(t:Ty) (p:Perm) (x:t.den) (s:Path) (t':Ty) (q:Perm) (v:t'.den) (r:Perm×t.den),hasIdx s=false→put t p x s t' q v=some r→sub t r.1 r.2 s=some ⟨t',q,v⟩
 | t,p,x,[],t',q,v,r,_,h=>by
  obtain ⟨e,rfl⟩:=Zfz h;subst e;rw[Zp];rfl
 | .prod a b,p,x, .fst::s,t',q,v,r,hi,h=>by
  simp only[hasIdx] at hi;simp only[put,Option.map_eq_some_iff] at h;obtain ⟨z,h,rfl⟩:=h;simp only[sub,Perm.mk_l];exact Zcf a _ _ s t' q v z hi h
 | .prod a b,p,x, .snd::s,t',q,v,r,hi,h=>by
  simp only[hasIdx] at hi;simp only[put,Option.map_eq_some_iff] at h;obtain ⟨z,h,rfl⟩:=h;simp only[sub,Perm.mk_r];exact Zcf b _ _ s t' q v z hi h
 | _,_,_, .idx _::_,_,_,_,_,hi,_=>by simp [hasIdx] at hi
 | .int _,_,_, .fst::_,_,_,_,_,_,h | .bool,_,_, .fst::_,_,_,_,_,_,h | .str,_,_, .fst::_,_,_,_,_,_,h | .err,_,_, .fst::_,_,_,_,_,_,h | .arr _ _,_,_, .fst::_,_,_,_,_,_,h=>by simp [put] at h
 | .int _,_,_, .snd::_,_,_,_,_,_,h | .bool,_,_, .snd::_,_,_,_,_,_,h | .str,_,_, .snd::_,_,_,_,_,_,h | .err,_,_, .snd::_,_,_,_,_,_,h | .arr _ _,_,_, .snd::_,_,_,_,_,_,h=>by simp [put] at h
 | .slice _ _,p,_, .fst::_,_,_,_,_,_,h | .slice _ _,p,_, .snd::_,_,_,_,_,_,h=>by cases p<;>simp [put] at h
theorem ZmZ:∀(t:Ty) (p:Perm) (x:t.den) (g:Gh) (s:Path) (y:Sub) (z:Gh),hasIdx s=false→sub t p x s=some y→ghAt t (ghSet t g s z) s=z
 | t,_,_,g,[],_,z,_,_=>by rw[ZmS,ZhG]
 | .prod a b,p,x,g, .fst::s,y,z,hi,h=>by
  simp only[hasIdx] at hi;simp only[sub] at h;simp only[ghSet,ghAt,Gh.pr_l];exact ZmZ a _ _ g.l s y z hi h
 | .prod a b,p,x,g, .snd::s,y,z,hi,h=>by
  simp only[hasIdx] at hi;simp only[sub] at h;simp only[ghSet,ghAt,Gh.pr_r];exact ZmZ b _ _ g.r s y z hi h
 | _,_,_,_, .idx _::_,_,_,hi,_=>by simp [hasIdx] at hi
 | .int _,_,_,_, .fst::_,_,_,_,h | .bool,_,_,_, .fst::_,_,_,_,h | .str,_,_,_, .fst::_,_,_,_,h | .err,_,_,_, .fst::_,_,_,_,h | .arr _ _,_,_,_, .fst::_,_,_,_,h=>by simp [sub] at h
 | .int _,_,_,_, .snd::_,_,_,_,h | .bool,_,_,_, .snd::_,_,_,_,h | .str,_,_,_, .snd::_,_,_,_,h | .err,_,_,_, .snd::_,_,_,_,h | .arr _ _,_,_,_, .snd::_,_,_,_,h=>by simp [sub] at h
 | .slice _ _,p,_,_, .fst::_,_,_,_,h | .slice _ _,p,_,_, .snd::_,_,_,_,h=>by cases p<;>simp [sub] at h
theorem Zm0:∀(n i j:Nat),i<n→j<n→i≠j→ext (fieldPath n i) (fieldPath n j)=false
 | 0,_,_,hi,_,_=>by omega
 | 1,_,_,hi,hj,hne=>by omega
 | n+2,0,0,_,_,hne=>by omega
 | n+2,0,j+1,_,_,_=>by simp [fieldPath,ext]
 | n+2,i+1,0,_,_,_=>by simp [fieldPath,ext]
 | n+2,i+1,j+1,hi,hj,hne=>by simp only[fieldPath,ext];exact Zm0 (n+1) i j (by omega) (by omega) (by omega)
theorem ZpO {n i j N:Nat} {t:Ty} (hi:i<n) (hj:j<n) (hne:i≠j):killL [.at N t (fieldPath n i)] (.vw N (fieldPath n j))= .vw N (fieldPath n j):=by
 simp [killL,killR,Zm0 n i j hi hj hne,Zm0 n j i hj hi (Ne.symm hne)]
theorem ZjB {st:St} {U:List (Nat×Option Blk)} {t:Ty} {r:Reg} {u:List (Nat×Option Blk)×List Kill} (h:takeAs st U t r=some u) {N:Nat} (hN:st.blkU U N=none) (s:Path):killL u.2 (.vw N s)= .vw N s:=by
 unfold takeAs at h;split at h
 case h_2=>cases h
 rename_i c hc;unfold takeOf at h;split at h
 ·cases h;rfl
 ·split at h
  ·cases h;rfl
  ·split at h
   ·cases h
   ·rename_i b s hsrc
    split at h
    ·cases h
    ·rename_i k hk
     have hb:N≠b:=fun e=>by rw[e,hk] at hN;cases hN
     split at h
     ·cases h
     ·split at h
      ·cases h;simp [killL,killR,hb]
      ·split at h
       ·cases h;simp [killL,killR,hb]
       ·cases h
theorem Zli {E:Env} {st:St} {w:World} {t:Ty} {n:Nat} (hm0:Mem w0 F0 T0 E st.blk w):
  ∀(ps:List (Nat×Reg×Value)) (p:Perm) (x:t.den) (U:List (Nat×Option Blk)) (K:List Kill) (E1:Env) (z:Perm×t.den×List (Nat×Option Blk)×List Kill) (done:List (Nat×Value)),
   (∀q,q∈ps→RegOk E w (Tch T0 E st.blk w) st.blk q.2.1 q.2.2)→fill st n (ps.map fun q=>(q.1,q.2.1)) t p x U K=some z→(∀b o,(b,o)∈U→∃k,st.blk b=some k)→
   Mem w0 F0 T0 E1 (setB (updF st.blk U) st.blks.length (some ⟨false,false,p,t,x⟩)) w→
   Carries K E w (Tch T0 E st.blk w) st.blk E1 w (Tch T0 E1 (setB (updF st.blk U) st.blks.length (some ⟨false,false,p,t,x⟩)) w) (setB (updF st.blk U) st.blks.length (some ⟨false,false,p,t,x⟩))→
   (∀d,d∈done→d.1<n∧RegOk E1 w (Tch T0 E1 (setB (updF st.blk U) st.blks.length (some ⟨false,false,p,t,x⟩)) w) (setB (updF st.blk U) st.blks.length (some ⟨false,false,p,t,x⟩)) (.vw st.blks.length (fieldPath n d.1)) d.2)→
   (∀q,q∈ps→∀d,d∈done→q.1≠d.1)→(ps.map fun q=>q.1).Nodup→
   ∃E2,(∀b o,(b,o)∈z.2.2.1→∃k,st.blk b=some k)∧Mem w0 F0 T0 E2 (setB (updF st.blk z.2.2.1) st.blks.length (some ⟨false,false,z.1,t,z.2.1⟩)) w∧
    (∀d,d∈done++(ps.map fun q=>(q.1,q.2.2))→d.1<n∧RegOk E2 w (Tch T0 E2 (setB (updF st.blk z.2.2.1) st.blks.length (some ⟨false,false,z.1,t,z.2.1⟩)) w) (setB (updF st.blk z.2.2.1) st.blks.length (some ⟨false,false,z.1,t,z.2.1⟩)) (.vw st.blks.length (fieldPath n d.1)) d.2)∧
    Carries z.2.2.2 E w (Tch T0 E st.blk w) st.blk E2 w (Tch T0 E2 (setB (updF st.blk z.2.2.1) st.blks.length (some ⟨false,false,z.1,t,z.2.1⟩)) w) (setB (updF st.blk z.2.2.1) st.blks.length (some ⟨false,false,z.1,t,z.2.1⟩))
 | [],p,x,U,K,E1,z,done,_,h,hU,hm,hc,hd,_,_=>by
  simp only[List.map_nil,fill,Option.some.injEq] at h;subst h;exact ⟨E1,hU,hm,by simpa using hd,hc⟩
 | (i,rg,v)::ps,p,x,U,K,E1,z,done,hrs,h,hU,hm,hc,hd,hne,hnd=>by
  simp only[List.map_cons,fill] at h;split at h
  case isFalse=>cases h
  rename_i hi;split at h
  case h_1=>cases h
  rename_i y hy;split at h
  case h_2=>cases h
  rename_i c u hcc hu;split at h
  case h_2=>cases h
  rename_i z1 hz1;have hNone:st.blkU U st.blks.length=none:=Z4 hU 0;obtain ⟨_,hlN⟩:=Zgx hu hNone;have hbU:∀b k,st.blkU U b=some k→setB (updF st.blk U) st.blks.length (some ⟨false,false,p,t,x⟩) b=some k:=fun b k hk=>by
   have:b≠st.blks.length:=fun e=>by rw[e,hNone] at hk;cases hk
   rw[Ze _ _ this];exact hk
  have hfree1:setB (updF st.blk U) st.blks.length (some ⟨false,false,p,t,x⟩) (st.blks.length+1)=none:=by
   rw[Ze _ _ (by omega)];exact Z4 hU 1
  obtain ⟨E2,m2,c2,hv,_,hU2⟩:=Zi9 (h:=st.blks.length+1) hcc hu hm hbU (hc _ _ (hrs (i,rg,v) (by simp))) hfree1;simp only at hv;have hd2:∀d,d∈done→d.1<n∧RegOk E2 w _ _ (.vw st.blks.length (fieldPath n d.1)) d.2:=fun d hdd=>by
   refine ⟨(hd d hdd).1, ?_⟩;have:=c2 _ _ (hd d hdd).2;rw[ZjB hu hNone] at this;exact this
  rw[Zjl hlN,←ZN] at m2 c2 hd2;have hb1:setB (setB (updF st.blk (U++u.1)) st.blks.length (some ⟨false,false,p,t,x⟩)) (st.blks.length+1) (some ⟨false,false,c.1,y.ty,c.2⟩) st.blks.length=some ⟨false,false,p,t,x⟩:=by
   rw[Ze _ _ (by omega),setB_same]
  have hst:=ZC n i;obtain ⟨m3,k3⟩:=m2.merge hb1 (setB_same _ _ _) (by omega) hst hy hz1;have hU':∀b o,(b,o)∈U++u.1→∃k,st.blk b=some k:=fun b o hb=>by
   rcases List.mem_append.1 hb with hb | hb
   ·exact hU b o hb
   ·obtain ⟨k,hk⟩:=hU2 b o hb
    unfold St.blkU at hk;split at hk
    ·rename_i v' hv'
     exact hU b _ (Zkk.lookU_mem hv')
    ·exact ⟨k,hk⟩
  have hX:setB (setB (setB (updF st.blk (U++u.1)) st.blks.length (some ⟨false,false,p,t,x⟩)) (st.blks.length+1) (some ⟨false,false,c.1,y.ty,c.2⟩)) (st.blks.length+1) none=setB (updF st.blk (U++u.1)) st.blks.length (some ⟨false,false,p,t,x⟩):=by
   rw[ZO,ZaO (f:=setB (updF st.blk (U++u.1)) st.blks.length (some ⟨false,false,p,t,x⟩)) (a:=st.blks.length+1) (x:=none) (by rw[Ze _ _ (by omega)];exact Z4 hU' 1)]
  have hfin:setB (setB (setB (setB (updF st.blk (U++u.1)) st.blks.length (some ⟨false,false,p,t,x⟩)) (st.blks.length+1) (some ⟨false,false,c.1,y.ty,c.2⟩)) (st.blks.length+1) none) st.blks.length (some ⟨false,false,z1.1,t,z1.2⟩)=setB (updF st.blk (U++u.1)) st.blks.length (some ⟨false,false,z1.1,t,z1.2⟩):=by
   rw[hX,ZO]
  rw[hfin] at m3 k3;have cc1:=Zm (E:=E2) (E':=E2) (w:=w) (w':=w) (T:=Tch T0 E2 (setB (setB (updF st.blk (U++u.1)) st.blks.length (some ⟨false,false,p,t,x⟩)) (st.blks.length+1) (some ⟨false,false,c.1,y.ty,c.2⟩)) w) (T':=Tch T0 E2 (setB (setB (updF st.blk (U++u.1)) st.blks.length (some ⟨false,false,p,t,x⟩)) (st.blks.length+1) (some ⟨false,false,c.1,y.ty,c.2⟩)) w) (blk:=setB (setB (updF st.blk (U++u.1)) st.blks.length (some ⟨false,false,p,t,x⟩)) (st.blks.length+1) (some ⟨false,false,c.1,y.ty,c.2⟩)) (st.blks.length+1) none (Kept.refl _ _) (fun _ _=>rfl) (fun _ _=>rfl);rw[hX] at cc1;have cc2:=Zdy (E:=E2) (E':=⟨setG E2.g st.blks.length (ghSet t (E2.g st.blks.length) (fieldPath n i) (E2.g (st.blks.length+1))),E2.base⟩) (w:=w) (w':=w) (blk:=setB (updF st.blk (U++u.1)) st.blks.length (some ⟨false,false,p,t,x⟩)) (b:=st.blks.length) (k:=⟨false,false,p,t,x⟩) (s:=fieldPath n i) (y:=y) (q0:=c.1) (v0:=c.2) (r:=z1) (gz:=E2.g (st.blks.length+1)) (setB_same _ _ _) hy (Zba _ _ _ _ _ hst hy) hz1 k3 rfl rfl;simp only[ZO] at cc2;have hcall:=Zm (E:=E2) (E':=⟨setG E2.g st.blks.length (ghSet t (E2.g st.blks.length) (fieldPath n i) (E2.g (st.blks.length+1))),E2.base⟩) (w:=w) (w':=w) (blk:=setB (updF st.blk (U++u.1)) st.blks.length (some ⟨false,false,p,t,x⟩)) st.blks.length (some ⟨false,false,z1.1,t,z1.2⟩) k3 (fun j hj=>Zl _ _ hj) (fun _ _=>rfl);rw[ZO] at hcall;have hct:=((hc.trans c2).trans cc1).trans hcall;have e9:K++u.2++[Kill.all (st.blks.length+1)]++[Kill.all st.blks.length]=(K++u.2)++(Kill.all (st.blks.length+1)::[Kill.all st.blks.length]):=by simp
  rw[e9] at hct;have hcd:=Carries.dropHand (K:=K++u.2) (K2:=[]) (Zj st 0) (Carries.dropHand (K:=K++u.2) (K2:=[.all st.blks.length]) (Zj st 1) hct);rw[List.append_nil] at hcd;have hnew:RegOk ⟨setG E2.g st.blks.length (ghSet t (E2.g st.blks.length) (fieldPath n i) (E2.g (st.blks.length+1))),E2.base⟩ w (Tch T0 ⟨setG E2.g st.blks.length (ghSet t (E2.g st.blks.length) (fieldPath n i) (E2.g (st.blks.length+1))),E2.base⟩ (setB (updF st.blk (U++u.1)) st.blks.length (some ⟨false,false,z1.1,t,z1.2⟩)) w) (setB (updF st.blk (U++u.1)) st.blks.length (some ⟨false,false,z1.1,t,z1.2⟩)) (.vw st.blks.length (fieldPath n i)) v:=by
   have hs1:=Zcf t p x (fieldPath n i) y.ty c.1 c.2 z1 hst hz1;refine ⟨⟨false,false,z1.1,t,z1.2⟩,⟨y.ty,c.1,c.2⟩,setB_same _ _ _,hs1,Zba _ _ _ _ _ hst hs1, ?_⟩;rw[hv];simp only[setG_same];rw[ZmZ t p x (E2.g st.blks.length) (fieldPath n i) y _ hst hy]
  have hd3:∀d,d∈done++[(i,v)]→d.1<n∧RegOk _ w _ (setB (updF st.blk (U++u.1)) st.blks.length (some ⟨false,false,z1.1,t,z1.2⟩)) (.vw st.blks.length (fieldPath n d.1)) d.2:=fun d hdd=>by
   rcases List.mem_append.1 hdd with hdd | hdd
   ·refine ⟨(hd d hdd).1, ?_⟩
    have h1:=cc1 _ _ (hd2 d hdd).2;have e0:killL [.all (st.blks.length+1)] (.vw st.blks.length (fieldPath n d.1))= .vw st.blks.length (fieldPath n d.1):=by simp [killL,killR]
    rw[e0] at h1;have h2:=cc2 _ _ h1;rw[ZpO hi (hd d hdd).1 (hne (i,rg,v) (by simp) d hdd)] at h2;exact h2
   ·simp only[List.mem_singleton] at hdd
    subst hdd;exact ⟨hi,hnew⟩
  simp only[List.map_cons,List.nodup_cons] at hnd;obtain ⟨E3,q1,q2,q3,q4⟩:=Zli hm0 ps z1.1 z1.2 (U++u.1) (K++u.2) _ z (done++[(i,v)]) (fun q hq=>hrs q (List.mem_cons_of_mem _ hq)) h hU' m3 hcd hd3 (fun q hq d hdd=>by
   rcases List.mem_append.1 hdd with hdd | hdd
   ·exact hne q (List.mem_cons_of_mem _ hq) d hdd
   ·simp only[List.mem_singleton] at hdd
    subst hdd;exact fun e=>hnd.1 (List.mem_map.2 ⟨q,hq,e⟩)) hnd.2
  exact ⟨E3,q1,q2,fun d hdd=>q3 d (by simpa using hdd),q4⟩
end
end Go.Rx
namespace Go.Rx
noncomputable section
open Go.RowKit
variable {P:Program} {C:Ctx}
def givRegs:(g:Giv)→List Reg→List Reg
 | .none,rs=>rs
 | .move _ _,rs=> .vw 0 []::rs
 | .mut _ _ _,rs=> .vw 0 []::rs
 | .ptr _ _ _,rs=> .ptr 0 []::rs
def givBlk:(g:Giv)→g.den→Option Blk
 | .none,_=>none
 | .move t p,x=>some ⟨false,false,p,t,x⟩
 | .mut t p _,x=>some ⟨false,false,p,t,x⟩
 | .ptr t p _,x=>some ⟨true,false,p,t,x⟩
def argRegs:(l:List Ty)→ADen l→List Reg→List Reg
 | [],_,rs=>rs
 | t::l,x,rs=> .val t x.1::argRegs l x.2 rs
def givN:Giv→Nat | .none=>0 | _=>1
def tlN:Option Nat→Nat | none=>0 | some _=>1
def tlRegs:Option Nat→List Reg→List Reg
 | none,rs=>rs
 | some k,rs=> .fn k::rs
def st0T (tl:Option Nat) (n:Nat) (g:Giv) (x:g.den) (l:List Ty) (xs:ADen l):St:=
 ⟨givRegs g (argRegs l xs (tlRegs tl (rep (n - (givN g+l.length+tlN tl)) .undef))),setN (rep n none) 0 (givBlk g x)⟩
def st0 (n:Nat) (g:Giv) (x:g.den) (l:List Ty) (xs:ADen l):St:=
 ⟨givRegs g (argRegs l xs (rep (n - (givN g+l.length)) .undef)),setN (rep n none) 0 (givBlk g x)⟩
def RegsOk (E:Env) (w:World) (T:TypeId→Nat→Prop) (blk:Nat→Option Blk):List Reg→List Value→Prop
 | [],[]=>True
 | r::rs,v::vs=>RegOk E w T blk r v∧RegsOk E w T blk rs vs
 | _,_=>False
theorem RegsOk.nth {E:Env} {w:World} {T:TypeId→Nat→Prop} {blk:Nat→Option Blk}:∀ {rs:List Reg} {vs:List Value},RegsOk E w T blk rs vs→∀t,RegOk E w T blk (nth rs t .undef) (vs.getD t undef)
 | [],[],_,t=>trivial
 | r::rs,v::vs,h,0=>by simpa using h.1
 | r::rs,v::vs,h,t+1=>by simpa using RegsOk.nth h.2 t
theorem RegsOk.len {E:Env} {w:World} {T:TypeId→Nat→Prop} {blk:Nat→Option Blk}:∀ {rs:List Reg} {vs:List Value},RegsOk E w T blk rs vs→rs.length=vs.length
 | [],[],_=>rfl
 | r::rs,v::vs,h=>by simp [RegsOk.len h.2]
theorem Zlj {E:Env} {w:World} {T:TypeId→Nat→Prop} {blk:Nat→Option Blk} (v:Value):∀n,RegsOk E w T blk (rep n .undef) (List.replicate n v)
 | 0=>trivial
 | n+1=>⟨trivial,Zlj v n⟩
theorem ZjC {E:Env} {w:World} {T:TypeId→Nat→Prop} {blk:Nat→Option Blk} {rs:List Reg} {us:List Value}:∀(l:List Ty) (xs:ADen l) (vs:List Value),ArgsOk w T l xs vs→RegsOk E w T blk rs us→RegsOk E w T blk (argRegs l xs rs) (vs++us)
 | [],_,vs,h,hr=>by
  have:vs=[]:=h;subst this;exact hr
 | t::l,x,vs,h,hr=>by
  obtain ⟨g,vs',rfl,h1,h2⟩:=h;exact ⟨⟨g,h1,rfl⟩,ZjC l x.2 vs' h2 hr⟩
theorem Zlk {w:World} {T:TypeId→Nat→Prop}:∀(l:List Ty) (xs:ADen l) (vs:List Value),ArgsOk w T l xs vs→vs.length=l.length
 | [],_,vs,h=>by have:vs=[]:=h;subst this;rfl
 | t::l,x,vs,h=>by
  obtain ⟨g,vs',rfl,_,h2⟩:=h;simp [Zlk l x.2 vs' h2]
theorem ZhV {w:World} {T T':TypeId→Nat→Prop} (hT:∀e k,T e k→T' e k):∀(l:List Ty) (xs:ADen l) (vs:List Value),ArgsOk w T l xs vs→ArgsOk w T' l xs vs
 | [],_,vs,h=>h
 | t::l,x,vs,h=>by
  obtain ⟨g,vs',rfl,h1,h2⟩:=h;exact ⟨g,vs',rfl,Holds.agree _ _ _ _ h1 (by simp [foot_ro]) (fun i k hk=>⟨rfl,hT i k hk⟩),ZhV hT l x.2 vs' h2⟩
def T0of (w:World) (T:TypeId→Nat→Prop) (F:List Nat):TypeId→Nat→Prop:=fun e k=>T e k∨k∈F∨w.heap.size≤k
def tlVals:Option Nat→List Value→List Value
 | none,vs=>vs
 | some k,vs=> .func (.func k) #[] #[]::vs
theorem ZhW (tl:Option Nat) (vs:List Value):(tlVals tl vs).length=tlN tl+vs.length:=by cases tl<;>simp [tlVals,tlN];omega
theorem ZpP {E:Env} {w:World} {T:TypeId→Nat→Prop} {blk:Nat→Option Blk} (tl:Option Nat) {rs:List Reg} {vs:List Value} (h:RegsOk E w T blk rs vs):RegsOk E w T blk (tlRegs tl rs) (tlVals tl vs):=by
 cases tl with
 | none=>exact h
 | some k=>exact ⟨rfl,h⟩
theorem enter {w:World} {T:TypeId→Nat→Prop} {g:Giv} {x:g.den} {gh:Gh} {b:Nat} {l:List Ty} {xs:ADen l} {vs0 vs:List Value} {tl:Option Nat} {n:Nat} (hg:GivOk w T g x gh b vs0) (ha:ArgsOk w T l xs vs) (hnd:(givFeet g x gh b).Nodup) (hlt:∀k,k∈givFeet g x gh b→k<w.heap.size)
  (hT:∀e k,T e k→k<w.heap.size∧k∉givFeet g x gh b) (hn:givN g+l.length+tlN tl≤n) (hn0:0<n):
  ∃E,Sim w (givFeet g x gh b) (T0of w T (givFeet g x gh b)) E (st0T tl n g x l xs) { tmps:=(addT (vs0++vs) tl).toArray++Array.replicate (n - (addT (vs0++vs) tl).toArray.size) undef,defers:=[] } w∧Fits (st0T tl n g x l xs)∧(st0T tl n g x l xs).regs.length=n:=by
 let E:Env:=⟨fun _=>gh,fun _=>b⟩
 have hblk:∀i,(st0T tl n g x l xs).blk i=if i=0 then givBlk g x else none:=fun i=>by
  show nth (setN (rep n none) 0 (givBlk g x)) i none=_;rw[ZW,Zix,ZgB];by_cases e:i=0
  ·simp [e,hn0]
  ·simp [e]
 have hfeet:∀i,feet E (st0T tl n g x l xs).blk i=if i=0 then givFeet g x gh b else []:=fun i=>by
  unfold feet;rw[hblk];by_cases e:i=0
  ·rw[if_pos e,if_pos e];cases g<;>simp [givBlk,givFeet,E]
  ·rw[if_neg e,if_neg e]
 have hTch:∀e k,T e k→Tch (T0of w T (givFeet g x gh b)) E (st0T tl n g x l xs).blk w e k:=fun e k hk=>⟨.inl hk,(hT e k hk).1,fun ⟨i,hi⟩=>by
  rw[hfeet] at hi;split at hi
  ·exact (hT e k hk).2 hi
  ·cases hi⟩
 have hmem:Mem w (givFeet g x gh b) (T0of w T (givFeet g x gh b)) E (st0T tl n g x l xs).blk w:=by
  refine ⟨fun i k hi=> ?_,⟨fun i=> ?_,fun i j m hi hj=> ?_⟩,fun k ⟨i,hi⟩=> ?_,⟨rfl,rfl,rfl,Xl _,fun _ _ _=>rfl⟩⟩
  ·rw[hblk] at hi
   split at hi
   case isFalse=>cases hi
   cases g with
   | none=>cases hi
   | move t p=>cases hi;exact ⟨Holds.agree _ _ _ _ hg.1 (fun _ _=>rfl) (fun e k hk=>⟨rfl,hTch e k hk⟩),by simp⟩
   | «mut» t p q=>cases hi;exact ⟨Holds.agree _ _ _ _ hg.1 (fun _ _=>rfl) (fun e k hk=>⟨rfl,hTch e k hk⟩),by simp⟩
   | ptr t p q=>cases hi;exact ⟨Holds.agree _ _ _ _ hg.1 (fun _ _=>rfl) (fun e k hk=>⟨rfl,hTch e k hk⟩),fun _=>hg.2.1⟩
  ·rw[hfeet];split
   ·exact hnd
   ·simp
  ·rw[hfeet] at hi hj
   split at hi<;>split at hj
   ·omega
   ·cases hj
   ·cases hi
   ·cases hi
  ·rw[hfeet] at hi
   split at hi
   ·exact ⟨hlt k hi, .inr hi⟩
   ·cases hi
 have hvl:vs.length=l.length:=Zlk l xs vs ha;have hv0:vs0.length=givN g:=by
  cases g with
  | none=>have:vs0=[]:=hg;subst this;rfl
  | move t p=>rw[hg.2];rfl
  | «mut» t p q=>rw[hg.2];rfl
  | ptr t p q=>rw[hg.2.2];rfl
 have hregs:RegsOk E w (Tch (T0of w T (givFeet g x gh b)) E (st0T tl n g x l xs).blk w) (st0T tl n g x l xs).blk (st0T tl n g x l xs).regs (vs0++(vs++tlVals tl (List.replicate (n - (givN g+l.length+tlN tl)) undef))):=by
  have h1:=ZjC (E:=E) (blk:=(st0T tl n g x l xs).blk) l xs vs (ZhV hTch l xs vs ha) (ZpP tl (Zlj undef (n - (givN g+l.length+tlN tl))));have h0:=hblk 0;rw[if_pos rfl] at h0;have e1:∀t:Ty,ghAt t (E.g 0) []=gh:=fun t=>ZhG t _
  cases g with
  | none=>have:vs0=[]:=hg;subst this;exact h1
  | move t p=>
   rw[hg.2];exact ⟨⟨_,_,h0,Zp _ _ _,ZaD _ _,by rw[e1]⟩,h1⟩
  | «mut» t p q=>
   rw[hg.2];exact ⟨⟨_,_,h0,Zp _ _ _,ZaD _ _,by rw[e1]⟩,h1⟩
  | ptr t p q=>
   rw[hg.2.2];refine ⟨⟨_,_,h0,Zp _ _ _,ZaD _ _, .inl rfl, ?_⟩,h1⟩;have:addrOf t (E.g 0) [] ⟨E.base 0,0,none⟩=⟨E.base 0,0,none⟩:=by cases t<;>rfl
   show _=Value.pointer (some (addrOf t (E.g 0) [] ⟨E.base 0,0,none⟩));rw[this]
 have hlen:(st0T tl n g x l xs).regs.length=n:=by
  rw[hregs.len];simp [hvl,hv0,ZhW];omega
 have htm:((addT (vs0++vs) tl).toArray++Array.replicate (n - (addT (vs0++vs) tl).toArray.size) undef)=(vs0++(vs++tlVals tl (List.replicate (n - (givN g+l.length+tlN tl)) undef))).toArray:=by
  rw[←Array.toList_inj];cases tl with
  | none=>simp [hvl,hv0,addT,tlVals,tlN]
  | some k=>simp [hvl,hv0,addT,tlVals,tlN,←Nat.sub_sub,Nat.add_assoc]
 refine ⟨E,⟨fun t=> ?_, ?_,rfl,hmem⟩,⟨?_⟩,hlen⟩
 ·have:=hregs.nth t
  simp only[htm];rw[Array.getD_eq_getD_getElem?]
  simpa [List.getD_eq_getElem?_getD,St.reg] using this
 ·simp only[htm,hlen];simp [hvl,hv0,ZhW];omega
 ·rw[hlen];simp [st0T,Zi,ZgB]
end
end Go.Rx
namespace Go.Rx
noncomputable section
open Go.RowKit
variable {P:Program} {C:Ctx} {w0:World} {F0:List Nat} {T0:TypeId→Nat→Prop}
def resReg (st:St):ResultVar→Reg
 | .tmp t=>st.reg t
 | .cell a _=>match st.reg a with | .ptr b s=> .vw b s | _=> .undef
def resOk (C:Ctx) (st:St):ResultVar→Bool
 | .tmp _=>true
 | .cell a t=>match st.reg a with
  | .ptr b s=>match st.blk b with
   | some k=>match sub k.ty k.p k.x s with
    | some y=>decide (C.ty t=some y.ty)
    | none=>false
   | none=>false
  | _=>false
def enumR (st:St):Nat→List ResultVar→List (Nat×Reg)
 | _,[]=>[]
 | i,r::l=>(i,resReg st r)::enumR st (i+1) l
def retK (C:Ctx) (res:Ty) (n:Nat) (p:Perm) (rs:List ResultVar) (st:St):Option (res.den×List (Nat×Option Blk)×List Kill):=
 if rs.all (resOk C st)=true∧rs.length=n then
  match n,rs with
  | 1,[r]=>if p= .ro then (match argOf st res (resReg st r) with | some x=>some (x,[],[]) | none=>none) else match contAs st [] res (resReg st r),takeAs st [] res (resReg st r) with
   | some c,some u=>if weak res c.1 p=true then some (c.2,u.1,u.2) else none
   | _,_=>none
  | n,rs=>match fill st n (enumR st 0 rs) res res.zp res.dflt [] [] with
   | some z=>if weak res z.1 p=true then some (z.2.1,z.2.2.1,z.2.2.2) else none
   | none=>none
 else none
def givOut (st:St) (U:List (Nat×Option Blk)) (K:List Kill):(g:Giv)→Option g.out
 | .none=>some ()
 | .move _ _=>some ()
 | .mut t _ q=>match killL K (st.reg 0) with
  | .vw b []=>match st.blkU U b with
   | some k=>if h:k.ty=t∧k.p=q then some (castTo h.1 k.x) else none
   | none=>none
  | _=>none
 | .ptr t _ q=>match killL K (st.reg 0) with
  | .ptr b []=>match st.blkU U b with
   | some k=>if h:k.ty=t∧k.p=q∧k.var=true then some (castTo h.1 k.x) else none
   | none=>none
  | _=>none
def Giv.lone:Giv→Bool | .none=>true | .move _ _=>true | _=>false
def retG (C:Ctx) (g:Giv) (res:Ty) (n:Nat) (p:Perm) (rs:List ResultVar) (st:St):Option (res.den×g.out):=match retK C res n p rs st with
 | some x=>if (g.lone || res.flat || !(decide (p= .ro) && decide (n=1)))=true then (match givOut st x.2.1 x.2.2 g with | some u=>some (x.1,u) | none=>none) else none
 | none=>none
def slotB:Code→Bool
 | .region _ ops _=>ops.toList.all fun o=>match o.dst with | some d=>decide (d≠0) | none=>true
 | .seq a b=>slotB a && slotB b
 | .cond _ a b=>slotB a && slotB b
 | .block _ c=>slotB c
 | .loop c=>slotB c
 | .scope c=>slotB c
 | _=>true
def evalFnT (C:Ctx) (N:Nat) (h:H) (fn:Func) (tl:Option Nat) (g:Giv) (l:List Ty) (res:Ty) (n:Nat) (p:Perm) (x:g.den) (xs:ADen l):Option (res.den×g.out):=
 match fn.body with
 | some c=>bif g.lone || slotB c then evalK C N h c (st0T tl fn.ntmps g x l xs) (fun st=>retG C g res n p fn.results.toList st) (fun _ _=>none) (fun st=>retG C g res n p fn.results.toList st) else none
 | none=>none
def evalFn (C:Ctx) (N:Nat) (h:H) (fn:Func) (g:Giv) (l:List Ty) (res:Ty) (n:Nat) (p:Perm) (x:g.den) (xs:ADen l):Option (res.den×g.out):=
 match fn.body with
 | some c=>bif g.lone || slotB c then evalK C N h c (st0 fn.ntmps g x l xs) (fun st=>retG C g res n p fn.results.toList st) (fun _ _=>none) (fun st=>retG C g res n p fn.results.toList st) else none
 | none=>none
def resAct (tmps:Array Value):ResultVar→Sem Value
 | .tmp t=>pure (tmps.getD t undef)
 | .cell a t=>do loadVar t (←asAddr (tmps.getD a undef))
theorem ZgK {α β:Type} (f:α→Sem β) (w:World):∀(l:List α) (vs:List β),l.length=vs.length→(∀(i:Nat) (a:α) (v:β),l[i]? =some a→vs[i]? =some v→(f a).run P w= .ok v w)→(l.mapM f).run P w= .ok vs w
 | [],[],_,_=>by simp
 | a::l,v::vs,hl,h=>by
  have h0:=h 0 a v rfl rfl;have:=ZgK f w l vs (by simpa using hl) (fun i a v ha hv=>h (i+1) a v ha hv)
  simp [List.mapM_cons,Sem.run_bind,h0,this]
 | [],_::_,hl,_=>by simp at hl
 | _::_,[],hl,_=>by simp at hl
theorem ZpQ (hT:TabOk P C) {E:Env} {st:St} {a:Act} {w:World} {r:ResultVar} (hS:Sim w0 F0 T0 E st a w) (h:resOk C st r=true):
  ∃v,(resAct a.tmps r).run P w= .ok v w∧RegOk E w (Tch T0 E st.blk w) st.blk (resReg st r) v:=by
 cases r with
 | tmp t=>exact ⟨_,rfl,hS.regs t⟩
 | cell x t=>
  simp only[resOk] at h;split at h
  case h_2=>cases h
  rename_i b s hreg;split at h
  case h_2=>cases h
  rename_i k hk;split at h
  case h_2=>cases h
  rename_i y hy;have hty:C.ty t=some y.ty:=by simpa using h
  have hx:=hS.regs x;rw[hreg] at hx;obtain ⟨k',y',h1,h2,h3,h4,hv⟩:=hx;rw[hk] at h1;cases h1;rw[hy] at h2;cases h2;have hmem:=Zcp hS.mem hk hy h3 h4;refine ⟨toV y.ty (cells y.ty y.x (ghAt k.ty (E.g b) s)), ?_, ?_⟩
  ·show (do loadVar t (←asAddr (a.tmps.getD x undef))).run P w=_
   simp only[hv,asAddr,Sem.run_bind,Sem.run_pure,Result.andThen_ok];exact ZcE hT hty hmem.1
  ·simp only[resReg,hreg]
   exact ⟨k,y,hk,hy,h3,rfl⟩
theorem Zll (hT:TabOk P C) {E:Env} {st:St} {a:Act} {w:World} (hS:Sim w0 F0 T0 E st a w):∀(rs:List ResultVar),rs.all (resOk C st)=true→∃vs:List Value,vs.length=rs.length∧
  ∀(i:Nat) (r:ResultVar) (v:Value),rs[i]? =some r→vs[i]? =some v→(resAct a.tmps r).run P w= .ok v w∧RegOk E w (Tch T0 E st.blk w) st.blk (resReg st r) v
 | [],_=>⟨[],rfl,by simp⟩
 | r::rs,h=>by
  simp only[List.all_cons,Xh] at h;obtain ⟨v,h1,h2⟩:=ZpQ hT hS h.1;obtain ⟨vs,h3,h4⟩:=Zll hT hS rs h.2;refine ⟨v::vs,by simp [h3],fun i r' v' hr hv=> ?_⟩;cases i with
  | zero=>simp at hr hv;subst hr;subst hv;exact ⟨h1,h2⟩
  | succ i=>exact h4 i r' v' (by simpa using hr) (by simpa using hv)
def packV:List Value→Value
 | [v]=>v
 | vs=> .tuple vs.toArray
theorem Zkz {fn:Func} {a:Act} {w:World} {vs:List Value} (hl:vs.length=fn.results.toList.length) (h:∀(i:Nat) (r:ResultVar) (v:Value),fn.results.toList[i]? =some r→vs[i]? =some v→(resAct a.tmps r).run P w= .ok v w):
  (results fn a.tmps).run P w= .ok (packV vs) w:=by
 have e:results fn a.tmps=(do let vs←fn.results.mapM (resAct a.tmps);pure (if h:vs.size=1 then vs[0] else .tuple vs)):=by
  unfold results
  congr 1
 rw[e,Array.mapM_eq_mapM_toList];have:=ZgK (P:=P) (resAct a.tmps) w fn.results.toList vs hl.symm h;simp only[Sem.run_bind,Sem.run_map,this]
 match vs with
 | []=>simp [packV]
 | [v]=>simp [packV]
 | v::v2::vs=>simp [packV]
theorem ZjD (st:St):∀(rs:List ResultVar) (vs:List Value) (i:Nat),vs.length=rs.length→∃ps:List (Nat×Reg×Value),enumR st i rs=ps.map (fun q=>(q.1,q.2.1))∧(∀q,q∈ps→i≤q.1∧∃r,rs[q.1 - i]? =some r∧resReg st r=q.2.1∧vs[q.1 - i]? =some q.2.2)∧(ps.map fun q=>q.1).Nodup∧(∀j v,vs[j]? =some v→(i+j,v)∈ps.map (fun q=>(q.1,q.2.2)))
 | [],[],i,_=>⟨[],rfl,by simp,by simp,by simp⟩
 | r::rs,v::vs,i,h=>by
  obtain ⟨ps,h1,h2,h3,h4⟩:=ZjD st rs vs (i+1) (by simpa using h);refine ⟨(i,resReg st r,v)::ps,by simp [enumR,h1],fun q hq=> ?_, ?_,fun j v' hv=> ?_⟩
  ·rcases List.mem_cons.1 hq with rfl | hq
   ·exact ⟨Xl _,r,by simp,rfl,by simp⟩
   ·obtain ⟨g1,r',g2,g3,g4⟩:=h2 q hq
    have e:q.1 - i=(q.1 - (i+1))+1:=by omega
    exact ⟨by omega,r',by rw[e];simpa using g2,g3,by rw[e];simpa using g4⟩
  ·simp only[List.map_cons,List.nodup_cons]
   refine ⟨fun hin=> ?_,h3⟩;obtain ⟨q,hq,he⟩:=List.mem_map.1 hin;have:=(h2 q hq).1;omega
  ·cases j with
   | zero=>simp at hv;subst hv;simp
   | succ j=>
    have:=h4 j v' (by simpa using hv);rw[show i+1+j=i+(j+1) by omega] at this;exact List.mem_cons_of_mem _ this
 | [],_::_,_,h=>by simp at h
 | _::_,[],_,h=>by simp at h
theorem Zlm:∀(n:Nat) (t:Ty) (x:t.den) (g:Gh),(comps n t x g).length≤n
 | 0,_,_,_=>by simp [comps]
 | 1,_,_,_=>by simp [comps]
 | n+2, .prod a b,x,g=>by simp only[comps,List.length_cons];have:=Zlm (n+1) b x.2 g.r;omega
 | n+2, .int _,_,_ | n+2, .bool,_,_ | n+2, .str,_,_ | n+2, .err,_,_ | n+2, .slice _ _,_,_ | n+2, .arr _ _,_,_=>by simp [comps]
def givV (E:Env):(g:Giv)→g.den→Gh→Nat→Value→Prop
 | .none,_,_,_,_=>True
 | .move _ _,_,_,_,_=>True
 | .mut t _ _,x,gh,_,v=>v=toV t (cells t x gh)
 | .ptr _ _ _,_,_,b,v=>v= .pointer (some ⟨b,0,none⟩)
theorem ZpR {t:Ty} {cs cs':List Value} (h:cs.length=t.sz) (h':cs'.length=t.sz) (e:toV t cs=toV t cs'):cs=cs':=by
 have one:∀l:List Value,l.length=1→∃v,l=[v]:=fun l hl=>by
  match l,hl with
  | [v],_=>exact ⟨v,rfl⟩
 cases t with
 | prod a b=>simpa [toV,Ty.agg] using e
 | arr n u=>simpa [toV,Ty.agg] using e
 | _=>
  obtain ⟨v,rfl⟩:=one cs h;obtain ⟨v',rfl⟩:=one cs' h'
  simpa [toV,Ty.agg] using e
theorem Zm1 {g:Giv} {st:St} {U:List (Nat×Option Blk)} {K:List Kill} {E2:Env} {blk2:Nat→Option Blk} {w':World} {F:List Nat} {T1:TypeId→Nat→Prop} {w:World} {x:g.den} {gh:Gh} {b:Nat} {u:g.out} {v0:Value}
  (hm:Mem w F T1 E2 blk2 w') (hr:RegOk E2 w' (Tch T1 E2 blk2 w') blk2 (killL K (st.reg 0)) v0) (hb:∀i k,st.blkU U i=some k→blk2 i=some k) (hv:givV E2 g x gh b v0) (h:givOut st U K g=some u):
  ∃gh',BackOk w' (Tch T1 E2 blk2 w') g x gh u gh' b∧(g.lone=true∧backFeet g u gh' b=[]∨∃i k,st.blkU U i=some k∧(backFeet g u gh' b).Sublist (feet E2 blk2 i)):=by
 cases g with
 | none=>exact ⟨.leaf,trivial, .inl ⟨rfl,rfl⟩⟩
 | move t p=>exact ⟨.leaf,trivial, .inl ⟨rfl,rfl⟩⟩
 | «mut» t p q=>
  simp only[givOut] at h;split at h
  case h_2=>cases h
  rename_i i hreg;split at h
  case h_2=>cases h
  rename_i k hk;split at h
  case isFalse=>cases h
  rename_i hc;obtain ⟨kv,kp,kq,kt,kx⟩:=k;simp only at hc;obtain ⟨rfl,rfl⟩:=hc;cases h;rw[hreg] at hr;obtain ⟨k',y,h1,h2,h3,h4⟩:=hr;have hbk:=hb i _ hk;rw[hbk] at h1;cases h1;rw[Zp] at h2;cases h2;simp only[ZhG] at h4;have hv':v0=toV kt (cells kt x gh):=hv;have hcells:cells kt kx (E2.g i)=cells kt x gh:=ZpR (Za _ _ _) (Za _ _ _) (h4.symm.trans hv');refine ⟨E2.g i,⟨(hm.blks i _ hbk).holds,hcells⟩, .inr ⟨i,_,hk, ?_⟩⟩;rw[ZE hbk];exact List.sublist_append_right _ _
 | ptr t p q=>
  simp only[givOut] at h;split at h
  case h_2=>cases h
  rename_i i hreg;split at h
  case h_2=>cases h
  rename_i k hk;split at h
  case isFalse=>cases h
  rename_i hc;obtain ⟨kv,kp,kq,kt,kx⟩:=k;simp only at hc;obtain ⟨rfl,rfl,rfl⟩:=hc;cases h;rw[hreg] at hr;obtain ⟨k',y,h1,h2,h3,h4,h5⟩:=hr;have hbk:=hb i _ hk;rw[hbk] at h1;cases h1;have hv':v0= .pointer (some ⟨b,0,none⟩):=hv;have hbase:E2.base i=b:=by
   have e0:addrOf kt (E2.g i) [] ⟨E2.base i,0,none⟩=⟨E2.base i,0,none⟩:=by cases kt<;>rfl
   rw[h5] at hv';simp only[e0] at hv';injection hv' with e
   injection e with e
   injection e
  refine ⟨E2.g i,⟨(hm.blks i _ hbk).holds, ?_⟩, .inr ⟨i,_,hk, ?_⟩⟩
  ·have:=(hm.blks i _ hbk).var rfl
   rw[hbase] at this;exact this
  ·rw[ZE hbk]
   simp only[backFeet,if_true,hbase,castTo];exact List.Sublist.refl _
theorem BackOk.mono {w:World} {T T':TypeId→Nat→Prop} (hT:∀e k,T e k→T' e k) {g:Giv} {x:g.den} {gh:Gh} {u:g.out} {gh':Gh} {b:Nat} (h:BackOk w T g x gh u gh' b):BackOk w T' g x gh u gh' b:=by
 cases g with
 | none=>trivial
 | move t p=>trivial
 | «mut» t p q=>exact ⟨Holds.agree _ _ _ _ h.1 (fun _ _=>rfl) (fun i k hk=>⟨rfl,hT i k hk⟩),h.2⟩
 | ptr t p q=>exact ⟨Holds.agree _ _ _ _ h.1 (fun _ _=>rfl) (fun i k hk=>⟨rfl,hT i k hk⟩),h.2⟩
theorem ZqG [Laid P] (hC:CtxOk P C) {fn:Func} {g:Giv} {res:Ty} {n:Nat} {p:Perm} {st:St} {E:Env} {a:Act} {w w':World} {T:TypeId→Nat→Prop} {F:List Nat} {x:res.den} {u:g.out} {gx:g.den} {gh:Gh} {b:Nat} (hv0:∀E,givV E g gx gh b (a.tmps.getD 0 undef)) (hS:Sim w F (T0of w T F) E st a w') (h:retG C g res n p fn.results.toList st=some (x,u)):
  ∃v g' gh' T',(results fn a.tmps).run P w'= .ok v w'∧v=(if n=1 then toV res (cells res x g') else .tuple (comps n res x g').toArray)∧Holds w' T' res p x g'∧BackOk w' T' g gx gh u gh' b∧(foot res p x g'++backFeet g u gh' b).Nodup∧
   (∀k,k∈foot res p x g'++backFeet g u gh' b→k<w'.heap.size∧(w.heap.size≤k∨k∈F))∧(∀e k,T' e k→(T e k∨k∈F∨w.heap.size≤k)∧k<w'.heap.size∧k∉foot res p x g'++backFeet g u gh' b):=by
 unfold retG at h;split at h
 case h_2=>cases h
 rename_i xr hx;split at h
 case isFalse=>cases h
 rename_i hlone;split at h
 case h_2=>cases h
 rename_i u' hu';simp only[Option.some.injEq,Prod.mk.injEq] at h;obtain ⟨hxx,huu⟩:=h;subst huu;unfold retK at hx;split at hx
 case isFalse=>cases hx
 rename_i hc;obtain ⟨hall,hlen⟩:=hc;obtain ⟨vs,hvl,hvs⟩:=Zll hC.tab hS fn.results.toList hall;have hrun:=Zkz (P:=P) (w:=w') hvl (fun i r v hr hv=>(hvs i r v hr hv).1)
 have hand:∀(E2:Env) (blk:Nat→Option Blk) (N:Nat) (p0:Perm) (y:res.den) (U:List (Nat×Option Blk)) (K:List Kill),Mem w F (T0of w T F) E2 blk w'→blk N=some ⟨false,false,p0,res,y⟩→weak res p0 p=true→
   RegOk E2 w' (Tch (T0of w T F) E2 blk w') blk (killL K (st.reg 0)) (a.tmps.getD 0 undef)→(∀i k,st.blkU U i=some k→i≠N∧blk i=some k)→givOut st U K g=some u'→
   ∃(gh':Gh) (T':TypeId→Nat→Prop),Holds w' T' res p y (E2.g N)∧BackOk w' T' g gx gh u' gh' b∧(foot res p y (E2.g N)++backFeet g u' gh' b).Nodup∧(∀k,k∈foot res p y (E2.g N)++backFeet g u' gh' b→k<w'.heap.size∧(w.heap.size≤k∨k∈F))∧
    (∀e k,T' e k→(T e k∨k∈F∨w.heap.size≤k)∧k<w'.heap.size∧k∉foot res p y (E2.g N)++backFeet g u' gh' b):=fun E2 blk N p0 y U K hm hb hw hr hbU hgo=>by
  have hnd:=Zac hm hb;have hf:∀k,k∈foot res p0 y (E2.g N)→k∈feet E2 blk N:=fun k hk=>Zk hb hk
  obtain ⟨h1,h2⟩:=ZbL (T':=fun e k=>Tch (T0of w T F) E2 blk w' e k∨(k∈foot res p0 y (E2.g N)∧k∉foot res p y (E2.g N))) (fun _ k hk=> .inl hk) res p0 p y (E2.g N) hw (hm.blks N _ hb).holds (fun k hk hn _=> .inr ⟨hk,hn⟩) hnd
  obtain ⟨gh',b1,b2⟩:=Zm1 hm hr (fun i k hk=>(hbU i k hk).2) (hv0 E2) hgo
  have hback:(backFeet g u' gh' b).Nodup∧(∀k,k∈backFeet g u' gh' b→k∉feet E2 blk N∧Owned E2 blk k):=by
   rcases b2 with ⟨_,b2⟩ | ⟨i,k,hk,hs⟩
   ·rw[b2];simp
   ·refine ⟨(hm.sep.nodup i).sublist hs,fun k' hk'=>⟨fun hin=> ?_,i,hs.subset hk'⟩⟩
    exact (hbU i k hk).1 (hm.sep.apart i N k' (hs.subset hk') hin)
  refine ⟨gh',_,h1,b1.mono (fun _ k hk=> .inl hk), ?_,fun k hk=> ?_,fun e k hk=> ?_⟩
  ·rw[List.nodup_append]
   exact ⟨hnd.sublist h2,hback.1,fun k hk k' hk' e=>(hback.2 k' hk').1 (e▸hf k (h2.subset hk))⟩
  ·rcases List.mem_append.1 hk with hk | hk
   ·exact hm.own k ⟨N,hf k (h2.subset hk)⟩
   ·exact hm.own k (hback.2 k hk).2
  ·rcases hk with hk | ⟨hk,hn⟩
   ·refine ⟨hk.1,hk.2.1,fun hin=> ?_⟩
    rcases List.mem_append.1 hin with hin | hin
    ·exact hk.2.2 ⟨N,hf k (h2.subset hin)⟩
    ·exact hk.2.2 (hback.2 k hin).2
   ·obtain ⟨g1,g2⟩:=hm.own k ⟨N,hf k hk⟩
    refine ⟨.inr (g2.symm),g1,fun hin=> ?_⟩;rcases List.mem_append.1 hin with hin | hin
    ·exact hn hin
    ·exact (hback.2 k hin).1 (hf k hk)
 split at hx
 · -- one value
  rename_i r hrs;rw[hrs] at hvl hvs;obtain ⟨v,rfl⟩:∃v,vs=[v]:=by
   match vs,hvl with
   | [v],_=>exact ⟨v,rfl⟩
  have hreg:=(hvs 0 r v rfl rfl).2;split at hx
  ·rename_i hp
   subst hp;split at hx
   case h_2=>cases hx
   rename_i y hy;cases hx;simp only at hxx hu';subst hxx;obtain ⟨g',h1,h2⟩:=Zk4 (T1:=fun e k=>Tch (T0of w T F) E st.blk w' e k∨∃b,k∈feet E st.blk b) hS.mem hy hreg (fun _ k hk=> .inl hk) (fun b _ _ _ _ _ k hk=> .inr ⟨b,hk⟩)
   by_cases hl:g.lone=true
   ·refine ⟨v,g', .leaf,_,hrun,by rw[if_pos rfl,h1],h2, ?_, ?_, ?_,fun e k hk=> ?_⟩
    ·cases g<;>first | (simp [Giv.lone] at hl;done) | trivial
    ·rw[foot_ro];cases g<;>first | (simp [Giv.lone] at hl;done) | simp [backFeet]
    ·rw[foot_ro];cases g<;>first | (simp [Giv.lone] at hl;done) | simp [backFeet]
    ·have ee:foot res .ro y g'++backFeet g u' .leaf b=[]:=by
      rw[foot_ro];cases g<;>first | (simp [Giv.lone] at hl;done) | rfl
     rw[ee];rcases hk with hk | ⟨b,hk⟩
     ·exact ⟨hk.1,hk.2.1,by simp⟩
     ·obtain ⟨g1,g2⟩:=hS.mem.own k ⟨b,hk⟩
      exact ⟨.inr g2.symm,g1,by simp⟩
   ·have hfl:res.flat=true:=by
     cases hf:res.flat with
     | true=>rfl
     | false=>simp [hl,hf] at hlone
    obtain ⟨gh',b1,b2⟩:=Zm1 hS.mem (K:=[]) (hS.regs 0) (fun i k hk=>by simpa [St.blkU,lookU] using hk) (hv0 E) hu';refine ⟨v,g',gh',Tch (T0of w T F) E st.blk w',hrun,by rw[if_pos rfl,h1],ZaF _ _ _ _ _ hfl h2,b1, ?_,fun k hk=> ?_,fun e k hk=> ?_⟩
    ·rw[foot_ro,List.nil_append]
     rcases b2 with ⟨h9,_⟩ | ⟨i,k,hk,hs⟩
     ·exact absurd h9 hl
     ·exact (hS.mem.sep.nodup i).sublist hs
    ·rw[foot_ro,List.nil_append] at hk
     rcases b2 with ⟨h9,_⟩ | ⟨i,k',hk',hs⟩
     ·exact absurd h9 hl
     ·exact hS.mem.own k ⟨i,hs.subset hk⟩
    ·rw[foot_ro,List.nil_append]
     refine ⟨hk.1,hk.2.1,fun hin=> ?_⟩;rcases b2 with ⟨h9,_⟩ | ⟨i,k',hk',hs⟩
     ·exact absurd h9 hl
     ·exact hk.2.2 ⟨i,hs.subset hin⟩
  ·split at hx
   case h_2=>cases hx
   rename_i c uu hcc hu;split at hx
   case isFalse=>cases hx
   rename_i hw;cases hx;simp only at hxx hu';subst hxx;obtain ⟨E2,m2,c2,hv,_,hU2⟩:=Zi9 (h:=st.blks.length) hcc hu hS.mem (fun b k h=>h) hreg (Zj st 0);obtain ⟨gh',T',h1,h2,h3,h4,h5⟩:=hand E2 _ st.blks.length c.1 c.2 uu.1 uu.2 m2 (setB_same _ _ _) hw (c2 _ _ (hS.regs 0)) (fun i k hk=>by
    have hne:i≠st.blks.length:=fun e=>by
     have:=Z4 (st:=st) (U:=uu.1) (fun b o hb=>by simpa [St.blkU,lookU] using hU2 b o hb) 0;have h9:updF st.blk uu.1 i=some k:=hk;rw[e] at h9;rw[Nat.add_zero] at this;rw[this] at h9;cases h9
    exact ⟨hne,by rw[Ze _ _ hne];exact hk⟩) hu'
   exact ⟨v,E2.g st.blks.length,gh',T',hrun,by rw[if_pos rfl,hv],h1,h2,h3,h4,h5⟩
 · -- several
  rename_i n n' rs hne;split at hx
  case h_2=>cases hx
  rename_i z hz;split at hx
  case isFalse=>cases hx
  rename_i hw;cases hx;simp only at hxx hu';subst hxx;have hvn:vs.length=n:=hvl.trans hlen;obtain ⟨ps,e1,e2,e3,e4⟩:=ZjD st fn.results.toList vs 0 hvl;rw[e1] at hz;obtain ⟨z1,z2⟩:=ZaW w' (Tch (T0of w T F) E st.blk w') res;obtain ⟨m1,k1⟩:=hS.mem.plain st.blks.length (Zj st 0) res _ _ _ z1 z2;have c1:Carries [] E w' (Tch (T0of w T F) E st.blk w') st.blk _ w' _ (setB (updF st.blk []) st.blks.length (some ⟨false,false,res.zp,res,res.dflt⟩)):=Zae (E':=⟨setG E.g st.blks.length res.zg,E.base⟩) (Zj st 0) k1 (fun i hi=>Zl _ _ hi) (fun _ _=>rfl);obtain ⟨E2,q1,q2,q3,q4⟩:=Zli (n:=n) hS.mem ps _ _ [] [] _ z [] (fun q hq=>by
   obtain ⟨_,r,g1,g2,g3⟩:=e2 q hq;rw[←g2];exact (hvs _ r _ g1 g3).2) hz (by simp) m1 c1 (by simp) (by simp) e3
  obtain ⟨gh',T',h1,h2,h3,h4,h5⟩:=hand E2 _ st.blks.length z.1 z.2.1 z.2.2.1 z.2.2.2 q2 (setB_same _ _ _) hw (q4 _ _ (hS.regs 0)) (fun i k hk=>by
   have hne:i≠st.blks.length:=fun e=>by
    have:=Z4 (st:=st) (U:=z.2.2.1) q1 0;have h9:updF st.blk z.2.2.1 i=some k:=hk;rw[e] at h9;rw[Nat.add_zero] at this;rw[this] at h9;cases h9
   exact ⟨hne,by rw[Ze _ _ hne];exact hk⟩) hu'
  have hn1:n≠1:=fun e=>by
   subst e
   match hfr:fn.results.toList,hlen with
   | [r],_=>exact hne r rfl hfr
  have hcomps:vs=comps n res z.2.1 (E2.g st.blks.length):=by
   apply List.ext_getElem?;intro i;by_cases hi:i<n
   ·have hiv:vs[i]? =some vs[i]:=List.getElem?_eq_getElem (by omega)
    obtain ⟨_,hd⟩:=q3 (0+i,vs[i]) (by rw[List.nil_append];exact e4 i _ hiv)
    simp only[Nat.zero_add] at hd;obtain ⟨k,y,g1,g2,_,g4⟩:=hd;rw[setB_same] at g1;cases g1;rw[hiv,Zip n i res z.1 z.2.1 (E2.g st.blks.length) y hi g2,←g4]
   ·rw[List.getElem?_eq_none (by omega),List.getElem?_eq_none (by have:=Zlm n res z.2.1 (E2.g st.blks.length);omega)]
  refine ⟨_,E2.g st.blks.length,gh',T',hrun, ?_,h1,h2,h3,h4,h5⟩;rw[if_neg hn1,←hcomps]
  match vs,hvn with
  | [],_=>rfl
  | [v],h=>exact absurd h.symm (by simpa using hn1)
  | _::_::_,_=>rfl
theorem ZcN:∀(c:Code),okJ (fun _=>True) c
 | .region _ _ _=>fun _ _ _ _ _=>trivial
 | .seq a b=>⟨ZcN a,ZcN b⟩
 | .cond _ a b=>⟨ZcN a,ZcN b⟩
 | .block _ c | .loop c | .scope c=>ZcN c
 | .skip | .exit _ | .ret | .label _ | .goto _ | .rangeFunc .. | .refuse _=>trivial
theorem Zb6 (v:Value):∀(c:Code),slotB c=true→okJ (fun a=>a.tmps.getD 0 undef=v) c
 | .region _ ops _,h=>fun o ho a u hj=>by
  simp only[slotB,List.all_eq_true] at h;have h0:=h o ho;cases hd:o.dst with
  | none=>exact hj
  | some d=>
   rw[hd] at h0;have hne:d≠0:=by simpa using h0
   show (a.tmps.setIfInBounds d u).getD 0 undef=v;rw[←hj];simp [Array.getD_eq_getD_getElem?,hne]
 | .seq a b,h=>by simp only[slotB,Xh] at h;exact ⟨Zb6 v a h.1,Zb6 v b h.2⟩
 | .cond _ a b,h=>by simp only[slotB,Xh] at h;exact ⟨Zb6 v a h.1,Zb6 v b h.2⟩
 | .block _ c,h=>Zb6 v c h
 | .loop c,h=>Zb6 v c h
 | .scope c,h=>Zb6 v c h
 | .skip,_ | .exit _,_ | .ret,_ | .label _,_ | .goto _,_ | .rangeFunc ..,_ | .refuse _,_=>trivial
theorem Zm2 (v0:Value) (rest vs:List Value) (tl:Option Nat) (us:Array Value):((addT ((v0::rest)++vs) tl).toArray++us).getD 0 undef=v0:=by
 rw[Array.getD_eq_getD_getElem?,Array.getElem?_append_left (by cases tl<;>simp [addT])]
 cases tl<;>simp [addT]
theorem ZjE [Laid P] (hC:CtxOk P C) {N:Nat} {f:FuncId} {fn:Func} {h:H} {g:Giv} {l:List Ty} {res:Ty} {n:Nat} {p:Perm} {tl:Option Nat} (hf:P.funcs[f]? =some fn) (hname:(fn.name== "runtime.NumGoroutine")=false) (hb0:fn.body.isSome=true) (hn:givN g+l.length+tlN tl≤fn.ntmps) (hn0:0<fn.ntmps):
  SatT P f tl ⟨g,l,res,n,p,evalFnT C N h fn tl g l res n p⟩:=by
 obtain ⟨c,hb⟩:=Option.isSome_iff_exists.1 hb0;refine ⟨⟨fn,c,hf,hname,hb⟩,fun w T x gh b xs vs0 vs r hg ha hnd hlt hT hD hr=> ?_⟩;obtain ⟨E,hS,hfit,hlen⟩:=enter hg ha hnd hlt hT hn hn0;simp only at hr hS;unfold evalFnT at hr;rw[hb] at hr;simp only at hr;cases hlone:(g.lone || slotB c) with
 | false=>rw[hlone] at hr;cases hr
 | true=>
 rw[hlone] at hr;simp only[Xd] at hr;have hT0':∀(e:TypeId) k,w.heap.size≤k∨k∈givFeet g x gh b→T0of w T (givFeet g x gh b) e k:=fun _ k hk=>by rcases hk with hk | hk;exact .inr (.inr hk);exact .inr (.inl hk)
 have main:∀(J:Act→Prop),okJ J c→J { tmps:=(addT (vs0++vs) tl).toArray++Array.replicate (fn.ntmps - (addT (vs0++vs) tl).toArray.size) undef,defers:=[] }→(∀a,J a→∀E,givV E g x gh b (a.tmps.getD 0 undef))→
   Calls P f (addT (vs0++vs) tl).toArray w fun e w'=>∃v,e= .returned v∧RetOk ⟨g,l,res,n,p,evalFnT C N h fn tl g l res n p⟩ w T x gh b r v w':=fun J hok hj0 hjv=>by
  have hw:=Zat (J:=J) hC ⟨hT0',T,hD,fun e k hk=>⟨.inl hk,hT e k hk⟩⟩ c h _ _ _ _ E _ w hok hr hj0 hS hfit hlen;refine calls_of_wp hf hb (wp_mono hw fun e a' w' hq=> ?_);have hend:∀st E',retG C g res n p fn.results.toList st=some r→J a'→Sim w (givFeet g x gh b) (T0of w T (givFeet g x gh b)) E' st a' w'→a'.defers=[]∧∃v,(results fn a'.tmps).run P w'= .ok v w'∧∃v',Ending.returned v= .returned v'∧RetOk ⟨g,l,res,n,p,evalFnT C N h fn tl g l res n p⟩ w T x gh b r v' w':=fun st E' hk hj' hS'=>by
   obtain ⟨y,u⟩:=r;obtain ⟨v,g',gh',T',h1,h2,h3,h4,h5,h6,h7⟩:=ZqG hC (hjv a' hj') hS' hk;exact ⟨hS'.defers,v,h1,v,rfl,g',gh',T',hS'.mem.frame,h2,h3,h4,h5,h6,h7⟩
  cases e with
  | normal=>obtain ⟨st,E',h1,_,_,h4,h5⟩:=hq;exact hend st E' h1 h4 h5
  | ret=>obtain ⟨st,E',h1,_,_,h4,h5⟩:=hq;exact hend st E' h1 h4 h5
  | exit i=>obtain ⟨st,E',h1,_⟩:=hq;cases h1
  | _=>exact hq.elim
 have slot:∀v0 rest,slotB c=true→vs0=v0::rest→(∀E,givV E g x gh b v0)→Calls P f (addT (vs0++vs) tl).toArray w fun e w'=>∃v,e= .returned v∧RetOk ⟨g,l,res,n,p,evalFnT C N h fn tl g l res n p⟩ w T x gh b r v w':=fun v0 rest hs e hv=>
  main (fun a=>a.tmps.getD 0 undef=v0) (Zb6 v0 c hs) (by subst e;exact Zm2 _ _ _ _ _) (fun a ha E=>ha▸hv E)
 cases g with
 | none=>exact main (fun _=>True) (ZcN c) trivial (fun _ _ _=>trivial)
 | move t q=>exact main (fun _=>True) (ZcN c) trivial (fun _ _ _=>trivial)
 | «mut» t q q'=>exact slot _ [] (by simpa [Giv.lone] using hlone) hg.2 (fun _=>rfl)
 | ptr t q q'=>exact slot _ [] (by simpa [Giv.lone] using hlone) hg.2.2 (fun _=>rfl)
theorem ZkA [Laid P] (hC:CtxOk P C) {N:Nat} {f:FuncId} {fn:Func} {h:H} {g:Giv} {l:List Ty} {res:Ty} {n:Nat} {p:Perm} (hf:P.funcs[f]? =some fn) (hname:(fn.name== "runtime.NumGoroutine")=false) (hb0:fn.body.isSome=true) (hn:givN g+l.length≤fn.ntmps) (hn0:0<fn.ntmps):
  Sat P f ⟨g,l,res,n,p,evalFn C N h fn g l res n p⟩:=ZjE (tl:=none) hC hf hname hb0 hn hn0
end
end Go.Rx
namespace Go.Rx
noncomputable section
open Go.RowKit
def eqCell:Value→Value→Bool
 | .int k n, .int k' n'=>decide (k=k') && decide (n=n')
 | .bool b, .bool b'=>b==b'
 | .string s, .string s'=>decide (s=s')
 | .slice none n c, .slice none n' c'=>decide (n=n') && decide (c=c')
 | .nilIface, .nilIface=>true
 | _,_=>false
theorem Zmg:∀ {v v':Value},eqCell v v'=true→v=v':=by
 intro v v' h;unfold eqCell at h;split at h
 ·simp at h;rw[h.1,h.2]
 ·simp at h;rw[h]
 ·simp at h;rw[h]
 ·simp at h;rw[h.1,h.2]
 ·rfl
 ·cases h
def eqCells:List Value→List Value→Bool
 | [],[]=>true
 | v::vs,w::ws=>eqCell v w && eqCells vs ws
 | _,_=>false
theorem Zd8:∀ {vs ws:List Value},eqCells vs ws=true→vs=ws
 | [],[],_=>rfl
 | v::vs,w::ws,h=>by
  simp only[eqCells,Xh] at h;rw[Zmg h.1,Zd8 h.2]
 | [],_::_,h=>by cases h
 | _::_,[],h=>by cases h
def zeroB (t:Ty):Option Value→Bool
 | some v=>match t.agg,v with
  | true, .agg cs=>eqCells cs.toList (cells t t.dflt t.zg)
  | false,v=>eqCells [v] (cells t t.dflt t.zg)
  | _,_=>false
 | none=>false
theorem Zm3 {t:Ty} {v:Option Value} (h:zeroB t v=true):v=some (toV t (cells t t.dflt t.zg)):=by
 unfold zeroB at h;split at h
 case h_2=>cases h
 rename_i v;split at h
 ·rename_i cs hag
  have:=Zd8 h;simp only[toV,hag,if_true,←this]
 ·rename_i v' hag
  have:=Zd8 h;simp [toV,hag,←this]
 ·cases h
def fieldsB (C:Ctx) (t:Ty) (nf:Nat) (fs:Array Field):Nat→Bool
 | 0=>true
 | f+1=>fieldsB C t nf fs f && (match fs[f]?,tyAt t (fieldPath nf f) with
  | some fl,some u=>decide (C.ty fl.type=some u) && decide (fl.offset=offOf t (fieldPath nf f))
  | _,_=>false)
theorem ZgL {C:Ctx} {t:Ty} {nf:Nat} {fs:Array Field}:∀ {n:Nat},fieldsB C t nf fs n=true→∀f,f<n→∃(fl:Field) (u:Ty),fs[f]? =some fl∧tyAt t (fieldPath nf f)=some u∧C.ty fl.type=some u∧fl.offset=offOf t (fieldPath nf f)
 | 0,_,f,hf=>absurd hf (by omega)
 | n+1,h,f,hf=>by
  simp only[fieldsB,Xh] at h;by_cases e:f=n
  ·subst e
   have h2:=h.2;split at h2
   ·rename_i fl u h3 h4
    simp only[Xh,Xi] at h2;exact ⟨fl,u,h3,h4,h2.1,h2.2⟩
   ·cases h2
  ·exact ZgL h.1 f (by omega)
def descB (C:Ctx) (nf:Nat):Ty→Option TypeDesc→Bool
 | .int k,some (.int k')=>decide (k=k')
 | .bool,some .bool=>true
 | .str,some .string=>true
 | .err,some (.interface _)=>true
 | .slice e u,some (.slice e')=>decide (e=e') && decide (C.ty e=some u)
 | .arr n u,some (.array n' e)=>decide (n=n') && decide (C.ty e=some u)
 | .prod a b,some (.struct fs)=>decide (fs.size=nf) && fieldsB C (.prod a b) nf fs nf
 | _,_=>false
theorem Zm4 {P:Program} {C:Ctx} {t:TypeId} {nf:Nat}:∀ {ty:Ty},descB C nf ty (P.underlying t)=true→DescOk P C t nf ty:=by
 intro ty h;unfold descB at h;split at h
 ·rename_i k k' e;simp at h;subst h;exact e
 ·rename_i e;exact e
 ·rename_i e;exact e
 ·rename_i ms e;exact ⟨ms,e⟩
 ·rename_i e u e' he;simp at h;obtain ⟨rfl,h⟩:=h;exact ⟨he,h⟩
 ·rename_i n u n' e he;simp at h;obtain ⟨rfl,h⟩:=h;exact ⟨e,he,h⟩
 ·rename_i a b fs he
  simp only[Xh,Xi] at h;exact ⟨fs,he,h.1,ZgL h.2⟩
 ·cases h
def nfB (nf:Nat):Ty→Bool
 | .prod _ _=>decide (1≤nf)
 | _=>true
theorem ZpS {nf:Nat} {t:Ty} (h:nfB nf t=true):t.agg=true→1≤nf∨∃n u,t= .arr n u:=by
 intro ha;cases t<;>first | (simp [Ty.agg] at ha;done) | skip
 ·left;simpa [nfB] using h
 ·exact .inr ⟨_,_,rfl⟩
def cmpFB (C:Ctx):Nat→Ty→Nat→List Field→Bool
 | 1,t,off,[f]=> !(f.name== "_") && (decide (C.ty f.type=some t) && decide (f.offset=off))
 | n+2, .prod a b,off,f::fs=> !(f.name== "_") && (decide (C.ty f.type=some a) && (decide (f.offset=off) && cmpFB C (n+1) b (off+a.sz) fs))
 | _,_,_,_=>false
theorem ZjF {C:Ctx}:∀(n:Nat) (u:Ty) (off:Nat) (fs:List Field),cmpFB C n u off fs=true→cmpFs C n u off fs
 | 0,u,_,_,h=>by cases u<;>simp [cmpFB] at h
 | 1,u,off,fs,h=>by
  have key:∀f:Field,(!(f.name== "_") && (decide (C.ty f.type=some u) && decide (f.offset=off)))=true→f.name≠ "_"∧C.ty f.type=some u∧f.offset=off:=fun f h=>by
   simpa using h
  cases u<;>(match fs,h with | [f],h=>exact key f h)
 | n+2,u,off,fs,h=>by
  cases u with
  | prod a b=>
   match fs,h with
   | f::fs,h=>
    simp only[cmpFB,Xh,Xi,Bool.not_eq_true',beq_eq_false_iff_ne] at h;exact ⟨h.1,h.2.1,h.2.2.1,ZjF (n+1) b _ fs h.2.2.2⟩
  | _=>simp [cmpFB] at h
def cmpOkB (P:Program) (C:Ctx) (t:TypeId) (ti:TI):Bool:= !cmpN ti.nf ti.ty || (match P.underlying t with
 | some (.struct fs)=>cmpFB C ti.nf ti.ty 0 fs.toList && (!P.stoodInHeld t && !P.eqGuardType P.depth t)
 | _=>false)
theorem Zmh {P:Program} {C:Ctx} {t:TypeId} {ti:TI} (h:cmpOkB P C t ti=true) (hc:cmpN ti.nf ti.ty=true):∃fs:Array Field,P.underlying t=some (.struct fs)∧cmpFs C ti.nf ti.ty 0 fs.toList∧P.stoodInHeld t=false∧P.eqGuardType P.depth t=false:=by
 unfold cmpOkB at h;rw[hc] at h;simp only[Bool.not_true,Bool.false_or] at h;split at h
 ·rename_i fs hfs
  simp only[Xh,Bool.not_eq_true'] at h;exact ⟨fs,hfs,ZjF _ _ _ _ h.1,h.2.1,h.2.2⟩
 ·cases h
def tyB (P:Program) (C:Ctx) (t:TypeId) (ti:TI):Bool:=
 match P.info? t with
 | some i=>decide (i.size=ti.ty.sz) && (decide (i.bytes=ti.bytes) && (zeroB ti.ty i.zero && (decide (0<ti.ty.sz) && (descB C ti.nf ti.ty (P.underlying t) && (nfB ti.nf ti.ty && cmpOkB P C t ti)))))
 | none=>false
theorem ZpT {P:Program} {C:Ctx} {t:TypeId} {ti:TI} (h:tyB P C t ti=true):TyOk P C t ti:=by
 unfold tyB at h;split at h
 case h_2=>cases h
 rename_i i hi;simp only[Xh,Xi] at h;obtain ⟨h1,h2,h3,h4,h5,h6,h7⟩:=h;exact ⟨⟨i,hi,h1,h2,Zm3 h3⟩,h4,Zm4 h5,ZpS h6,Zmh h7⟩
def tabB (P:Program) (C:Ctx):List (Nat×TI)→Bool
 | []=>true
 | (t,ti)::l=>tyB P C t ti && tabB P C l
theorem Zln {P:Program} {C:Ctx}:∀ {l:List (Nat×TI)},tabB P C l=true→∀t ti,lookT l t=some ti→TyOk P C t ti
 | [],_,t,ti,h=>by cases h
 | (a,x)::l,h,t,ti,hl=>by
  simp only[tabB,Xh] at h;simp only[lookT] at hl;split at hl
  ·rename_i e;subst e;cases hl;exact ZpT h.1
  ·exact Zln h.2 t ti hl
theorem ZqH {P:Program} {C:Ctx} (h:tabB P C C.tab=true):TabOk P C:=Zln h
end
end Go.Rx
namespace Go.Rx
noncomputable section
open Go.RowKit
variable {P:Program}
def lookF:List (Nat×Spec)→Nat→Option Spec
 | [],_=>none
 | (a,x)::l,g=>if a=g then some x else lookF l g
def hasD:List Nat→Nat→Bool
 | [],_=>false
 | a::l,d=>decide (a=d) || hasD l d
def ctxF (tab:List (Nat×TI)) (l:List (Nat×Spec)) (fr:List Nat):Ctx:=⟨tab,lookF l,hasD fr⟩
def ctx (tab:List (Nat×TI)) (l:List (Nat×Spec)):Ctx:=ctxF tab l []
theorem ZgM {tab:List (Nat×TI)} {l l':List (Nat×Spec)} {fr fr':List Nat}:∀ {n:Nat} {u:Ty} {off:Nat} {fs:List Field},cmpFs (ctxF tab l fr) n u off fs→cmpFs (ctxF tab l' fr') n u off fs
 | 0,u,_,_,h=>by cases u<;>exact h.elim
 | 1,u,_,fs,h=>by cases u<;>(match fs,h with | [f],h=>exact h)
 | n+2,u,_,fs,h=>by
  cases u with
  | prod a b=>
   match fs,h with
   | f::fs,h=>exact ⟨h.1,h.2.1,h.2.2.1,ZgM h.2.2.2⟩
  | _=>exact h.elim
theorem Zm5 [Laid P] {tab:List (Nat×TI)} {l:List (Nat×Spec)} (h:CtxOk P (ctx tab l)) (fr:List Nat):CtxOk P (ctxF tab l fr):=by
 refine ⟨fun t ti ht=> ?_,h.fn,h.mixed⟩;have h1:=h.tab t ti ht;refine ⟨h1.info,h1.pos, ?_,h1.nf,fun hc=> ?_⟩
 ·have hd:=h1.desc
  revert hd
  cases ti.ty<;>exact id
 ·obtain ⟨fs,a1,a2,a3⟩:=h1.cmp hc
  exact ⟨fs,a1,ZgM a2,a3⟩
theorem ZpU [Laid P] {tab:List (Nat×TI)} (h:∀l,TabOk P (ctx tab l)) (hm:P.follows .mixedOrders=true):CtxOk P (ctx tab []):=⟨h [],(fun g sp hg=>by cases hg),hm⟩
theorem Zm6 [Laid P] {tab:List (Nat×TI)} {l:List (Nat×Spec)} {f:Nat} {sp:Spec} (hT:∀l,TabOk P (ctx tab l)) (hl:CtxOk P (ctx tab l)) (h:SatT P (keyF f) (keyT f) sp):CtxOk P (ctx tab ((f,sp)::l)):=by
 refine ⟨hT _,fun g sp' hg=> ?_,hl.mixed⟩;simp only[ctx,ctxF,lookF] at hg;split at hg
 ·rename_i e;subst e;cases hg;exact h
 ·exact hl.fn g sp' hg
theorem ZoI [Laid P] {tab:List (Nat×TI)} {l:List (Nat×Spec)} {f:Nat} {sp:Spec} (hT:∀l,TabOk P (ctx tab l)) (hl:CtxOk P (ctx tab l)) (h:Sat P f sp) (hf:decide (f<65536)=true:=by decide):CtxOk P (ctx tab ((f,sp)::l)):=by
 refine Zm6 hT hl ?_;have e:Nat.blt f 65536=true:=by have:=of_decide_eq_true hf;simp [Nat.blt];omega
 unfold keyF keyT;rw[e];exact h
theorem Zm7 [Laid P] {tab:List (Nat×TI)} {l:List (Nat×Spec)} {m g k:Nat} {sp:Spec} (hT:∀l,TabOk P (ctx tab l)) (hl:CtxOk P (ctx tab l)) (h:SatT P g (some k) sp) (hm:(decide (k<65536) && decide (65536*(g+1)+k=m))=true:=by decide):CtxOk P (ctx tab ((m,sp)::l)):=by
 simp only[Xh,Xi] at hm;obtain ⟨h1,rfl⟩:=hm;refine Zm6 hT hl ?_;have e0:Nat.blt (65536*(g+1)+k) 65536=false:=by
  cases h:Nat.blt (65536*(g+1)+k) 65536 with
  | false=>rfl
  | true=>simp [Nat.blt] at h;omega
 have e1:keyF (65536*(g+1)+k)=g:=by unfold keyF;rw[e0];simp only[Xe];omega
 have e2:keyT (65536*(g+1)+k)=some k:=by unfold keyT;rw[e0];simp only[Xe];congr 1;omega
 rw[e1,e2];exact h
theorem ZpV {tab:List (Nat×TI)} (h:tabB P (ctx tab []) tab=true):∀l,TabOk P (ctx tab l):=fun l=>by
 have:=ZqH (P:=P) (C:=ctx tab []) h;intro t ti ht;have h1:=this t ti ht;refine ⟨h1.info,h1.pos, ?_,h1.nf,fun hc=> ?_⟩
 ·have hd:=h1.desc
  revert hd
  cases ti.ty<;>exact id
 ·obtain ⟨fs,a1,a2,a3⟩:=h1.cmp hc
  exact ⟨fs,a1,ZgM a2,a3⟩
end
end Go.Rx
namespace Go.Rx
noncomputable section
open Go.RowKit
variable {P:Program} {C:Ctx}
def chk {α:Type} (b:Bool) (x:Option α):Option α:=bif b then x else none
def gd {α:Type} (xs:List α) (i:Nat) (d:α):α:=xs.getD i d
theorem Zf {α:Type} {b:Bool} (h:b=true) (x:Option α):chk b x=x:=by rw[h];rfl
theorem loop_run {σ R:Type} {L:Nat→σ→R} {B:(σ→R)→σ→R} (hs:∀m s,L (m+1) s=B (L m) s) (s:Nat→σ) (n:Nat) {res:R} (hstep:∀i,i<n→∀k,B k (s i)=k (s (i+1))) (hend:∀k,B k (s n)=res) (m:Nat) (hm:n<m):L m (s 0)=res:=by
 have key:∀d j,j+d=n→∀m,d<m→L m (s j)=res:=by
  intro d
  induction d with
  | zero=>
   intro j hj m hm;obtain ⟨q,rfl⟩:∃q,m=q+1:=⟨m - 1,by omega⟩
   obtain rfl:j=n:=by omega
   rw[hs,hend]
  | succ d ih=>
   intro j hj m hm;obtain ⟨q,rfl⟩:∃q,m=q+1:=⟨m - 1,by omega⟩
   rw[hs,hstep j (by omega)];exact ih (j+1) (by omega) q (by omega)
 exact key n 0 (by omega) m hm
theorem Zps [Laid P] (hC:CtxOk P C) {N:Nat} {f:FuncId} {fn:Func} {h:H} {g:Giv} {l:List Ty} {res:Ty} {n:Nat} {p:Perm} {F:g.den→ADen l→Option (res.den×g.out)} (hf:P.funcs[f]? =some fn) (hname:(fn.name== "runtime.NumGoroutine")=false) (hb0:fn.body.isSome=true)
  (hn:givN g+l.length≤fn.ntmps) (hn0:0<fn.ntmps) (he:evalFn C N h fn g l res n p=F):Sat P f ⟨g,l,res,n,p,F⟩:=he▸ZkA hC hf hname hb0 hn hn0
theorem sq [Laid P] {N:Nat} {f:FuncId} {fn:Func} {g:Giv} {l:List Ty} {res:Ty} {n:Nat} {p:Perm} {F:g.den→ADen l→Option (res.den×g.out)} (hC:CtxOk P C) (h:H) (hf:P.funcs[f]? =some fn) (he:evalFn C N h fn g l res n p=F:=by kernel_rfl) (hname:(fn.name== "runtime.NumGoroutine")=false:=by kernel_rfl) (hb0:fn.body.isSome=true:=by kernel_rfl)
  (hn:givN g+l.length≤fn.ntmps:=by decide) (hn0:0<fn.ntmps:=by decide):Sat P f ⟨g,l,res,n,p,F⟩:=Zps hC hf hname hb0 hn hn0 he
def it_0_3 {B0 B1 B2 R:Type} (F:(B0→B1→B2→Option R)→B0→B1→B2→Option R) (n:Nat) (b0:B0) (b1:B1) (b2:B2):Option R:=iterK n (fun k (v:(Unit)×(B0×B1×B2×Unit))=>F (fun b0 b1 b2=>k ((),(b0,b1,b2,()))) v.2.1 v.2.2.1 v.2.2.2.1) ((),(b0,b1,b2,()))
def it_1_1 {A0 B0 R:Type} (F:(A0→B0→Option R)→A0→B0→Option R) (n:Nat) (a0:A0) (b0:B0):Option R:=iterK n (fun k (v:(A0×Unit)×(B0×Unit))=>F (fun a0 b0=>k ((a0,()),(b0,()))) v.1.1 v.2.1) ((a0,()),(b0,()))
def it_1_2 {A0 B0 B1 R:Type} (F:(A0→B0→B1→Option R)→A0→B0→B1→Option R) (n:Nat) (a0:A0) (b0:B0) (b1:B1):Option R:=iterK n (fun k (v:(A0×Unit)×(B0×B1×Unit))=>F (fun a0 b0 b1=>k ((a0,()),(b0,b1,()))) v.1.1 v.2.1 v.2.2.1) ((a0,()),(b0,b1,()))
def it_1_3 {A0 B0 B1 B2 R:Type} (F:(A0→B0→B1→B2→Option R)→A0→B0→B1→B2→Option R) (n:Nat) (a0:A0) (b0:B0) (b1:B1) (b2:B2):Option R:=iterK n (fun k (v:(A0×Unit)×(B0×B1×B2×Unit))=>F (fun a0 b0 b1 b2=>k ((a0,()),(b0,b1,b2,()))) v.1.1 v.2.1 v.2.2.1 v.2.2.2.1) ((a0,()),(b0,b1,b2,()))
def it_2_1 {A0 A1 B0 R:Type} (F:(A0→A1→B0→Option R)→A0→A1→B0→Option R) (n:Nat) (a0:A0) (a1:A1) (b0:B0):Option R:=iterK n (fun k (v:(A0×A1×Unit)×(B0×Unit))=>F (fun a0 a1 b0=>k ((a0,a1,()),(b0,()))) v.1.1 v.1.2.1 v.2.1) ((a0,a1,()),(b0,()))
def it_2_2 {A0 A1 B0 B1 R:Type} (F:(A0→A1→B0→B1→Option R)→A0→A1→B0→B1→Option R) (n:Nat) (a0:A0) (a1:A1) (b0:B0) (b1:B1):Option R:=iterK n (fun k (v:(A0×A1×Unit)×(B0×B1×Unit))=>F (fun a0 a1 b0 b1=>k ((a0,a1,()),(b0,b1,()))) v.1.1 v.1.2.1 v.2.1 v.2.2.1) ((a0,a1,()),(b0,b1,()))
def it_2_3 {A0 A1 B0 B1 B2 R:Type} (F:(A0→A1→B0→B1→B2→Option R)→A0→A1→B0→B1→B2→Option R) (n:Nat) (a0:A0) (a1:A1) (b0:B0) (b1:B1) (b2:B2):Option R:=iterK n (fun k (v:(A0×A1×Unit)×(B0×B1×B2×Unit))=>F (fun a0 a1 b0 b1 b2=>k ((a0,a1,()),(b0,b1,b2,()))) v.1.1 v.1.2.1 v.2.1 v.2.2.1 v.2.2.2.1) ((a0,a1,()),(b0,b1,b2,()))
def it_2_4 {A0 A1 B0 B1 B2 B3 R:Type} (F:(A0→A1→B0→B1→B2→B3→Option R)→A0→A1→B0→B1→B2→B3→Option R) (n:Nat) (a0:A0) (a1:A1) (b0:B0) (b1:B1) (b2:B2) (b3:B3):Option R:=iterK n (fun k (v:(A0×A1×Unit)×(B0×B1×B2×B3×Unit))=>F (fun a0 a1 b0 b1 b2 b3=>k ((a0,a1,()),(b0,b1,b2,b3,()))) v.1.1 v.1.2.1 v.2.1 v.2.2.1 v.2.2.2.1 v.2.2.2.2.1) ((a0,a1,()),(b0,b1,b2,b3,()))
def it_2_5 {A0 A1 B0 B1 B2 B3 B4 R:Type} (F:(A0→A1→B0→B1→B2→B3→B4→Option R)→A0→A1→B0→B1→B2→B3→B4→Option R) (n:Nat) (a0:A0) (a1:A1) (b0:B0) (b1:B1) (b2:B2) (b3:B3) (b4:B4):Option R:=iterK n (fun k (v:(A0×A1×Unit)×(B0×B1×B2×B3×B4×Unit))=>F (fun a0 a1 b0 b1 b2 b3 b4=>k ((a0,a1,()),(b0,b1,b2,b3,b4,()))) v.1.1 v.1.2.1 v.2.1 v.2.2.1 v.2.2.2.1 v.2.2.2.2.1 v.2.2.2.2.2.1) ((a0,a1,()),(b0,b1,b2,b3,b4,()))
def it_3_0 {A0 A1 A2 R:Type} (F:(A0→A1→A2→Option R)→A0→A1→A2→Option R) (n:Nat) (a0:A0) (a1:A1) (a2:A2):Option R:=iterK n (fun k (v:(A0×A1×A2×Unit)×(Unit))=>F (fun a0 a1 a2=>k ((a0,a1,a2,()),())) v.1.1 v.1.2.1 v.1.2.2.1) ((a0,a1,a2,()),())
def it_3_1 {A0 A1 A2 B0 R:Type} (F:(A0→A1→A2→B0→Option R)→A0→A1→A2→B0→Option R) (n:Nat) (a0:A0) (a1:A1) (a2:A2) (b0:B0):Option R:=iterK n (fun k (v:(A0×A1×A2×Unit)×(B0×Unit))=>F (fun a0 a1 a2 b0=>k ((a0,a1,a2,()),(b0,()))) v.1.1 v.1.2.1 v.1.2.2.1 v.2.1) ((a0,a1,a2,()),(b0,()))
def it_3_2 {A0 A1 A2 B0 B1 R:Type} (F:(A0→A1→A2→B0→B1→Option R)→A0→A1→A2→B0→B1→Option R) (n:Nat) (a0:A0) (a1:A1) (a2:A2) (b0:B0) (b1:B1):Option R:=iterK n (fun k (v:(A0×A1×A2×Unit)×(B0×B1×Unit))=>F (fun a0 a1 a2 b0 b1=>k ((a0,a1,a2,()),(b0,b1,()))) v.1.1 v.1.2.1 v.1.2.2.1 v.2.1 v.2.2.1) ((a0,a1,a2,()),(b0,b1,()))
def it_3_3 {A0 A1 A2 B0 B1 B2 R:Type} (F:(A0→A1→A2→B0→B1→B2→Option R)→A0→A1→A2→B0→B1→B2→Option R) (n:Nat) (a0:A0) (a1:A1) (a2:A2) (b0:B0) (b1:B1) (b2:B2):Option R:=iterK n (fun k (v:(A0×A1×A2×Unit)×(B0×B1×B2×Unit))=>F (fun a0 a1 a2 b0 b1 b2=>k ((a0,a1,a2,()),(b0,b1,b2,()))) v.1.1 v.1.2.1 v.1.2.2.1 v.2.1 v.2.2.1 v.2.2.2.1) ((a0,a1,a2,()),(b0,b1,b2,()))
def it_4_0 {A0 A1 A2 A3 R:Type} (F:(A0→A1→A2→A3→Option R)→A0→A1→A2→A3→Option R) (n:Nat) (a0:A0) (a1:A1) (a2:A2) (a3:A3):Option R:=iterK n (fun k (v:(A0×A1×A2×A3×Unit)×(Unit))=>F (fun a0 a1 a2 a3=>k ((a0,a1,a2,a3,()),())) v.1.1 v.1.2.1 v.1.2.2.1 v.1.2.2.2.1) ((a0,a1,a2,a3,()),())
def it_4_1 {A0 A1 A2 A3 B0 R:Type} (F:(A0→A1→A2→A3→B0→Option R)→A0→A1→A2→A3→B0→Option R) (n:Nat) (a0:A0) (a1:A1) (a2:A2) (a3:A3) (b0:B0):Option R:=iterK n (fun k (v:(A0×A1×A2×A3×Unit)×(B0×Unit))=>F (fun a0 a1 a2 a3 b0=>k ((a0,a1,a2,a3,()),(b0,()))) v.1.1 v.1.2.1 v.1.2.2.1 v.1.2.2.2.1 v.2.1) ((a0,a1,a2,a3,()),(b0,()))
def it_4_2 {A0 A1 A2 A3 B0 B1 R:Type} (F:(A0→A1→A2→A3→B0→B1→Option R)→A0→A1→A2→A3→B0→B1→Option R) (n:Nat) (a0:A0) (a1:A1) (a2:A2) (a3:A3) (b0:B0) (b1:B1):Option R:=iterK n (fun k (v:(A0×A1×A2×A3×Unit)×(B0×B1×Unit))=>F (fun a0 a1 a2 a3 b0 b1=>k ((a0,a1,a2,a3,()),(b0,b1,()))) v.1.1 v.1.2.1 v.1.2.2.1 v.1.2.2.2.1 v.2.1 v.2.2.1) ((a0,a1,a2,a3,()),(b0,b1,()))
def it_4_3 {A0 A1 A2 A3 B0 B1 B2 R:Type} (F:(A0→A1→A2→A3→B0→B1→B2→Option R)→A0→A1→A2→A3→B0→B1→B2→Option R) (n:Nat) (a0:A0) (a1:A1) (a2:A2) (a3:A3) (b0:B0) (b1:B1) (b2:B2):Option R:=iterK n (fun k (v:(A0×A1×A2×A3×Unit)×(B0×B1×B2×Unit))=>F (fun a0 a1 a2 a3 b0 b1 b2=>k ((a0,a1,a2,a3,()),(b0,b1,b2,()))) v.1.1 v.1.2.1 v.1.2.2.1 v.1.2.2.2.1 v.2.1 v.2.2.1 v.2.2.2.1) ((a0,a1,a2,a3,()),(b0,b1,b2,()))
def it_5_0 {A0 A1 A2 A3 A4 R:Type} (F:(A0→A1→A2→A3→A4→Option R)→A0→A1→A2→A3→A4→Option R) (n:Nat) (a0:A0) (a1:A1) (a2:A2) (a3:A3) (a4:A4):Option R:=iterK n (fun k (v:(A0×A1×A2×A3×A4×Unit)×(Unit))=>F (fun a0 a1 a2 a3 a4=>k ((a0,a1,a2,a3,a4,()),())) v.1.1 v.1.2.1 v.1.2.2.1 v.1.2.2.2.1 v.1.2.2.2.2.1) ((a0,a1,a2,a3,a4,()),())
def it_5_1 {A0 A1 A2 A3 A4 B0 R:Type} (F:(A0→A1→A2→A3→A4→B0→Option R)→A0→A1→A2→A3→A4→B0→Option R) (n:Nat) (a0:A0) (a1:A1) (a2:A2) (a3:A3) (a4:A4) (b0:B0):Option R:=iterK n (fun k (v:(A0×A1×A2×A3×A4×Unit)×(B0×Unit))=>F (fun a0 a1 a2 a3 a4 b0=>k ((a0,a1,a2,a3,a4,()),(b0,()))) v.1.1 v.1.2.1 v.1.2.2.1 v.1.2.2.2.1 v.1.2.2.2.2.1 v.2.1) ((a0,a1,a2,a3,a4,()),(b0,()))
def it_5_2 {A0 A1 A2 A3 A4 B0 B1 R:Type} (F:(A0→A1→A2→A3→A4→B0→B1→Option R)→A0→A1→A2→A3→A4→B0→B1→Option R) (n:Nat) (a0:A0) (a1:A1) (a2:A2) (a3:A3) (a4:A4) (b0:B0) (b1:B1):Option R:=iterK n (fun k (v:(A0×A1×A2×A3×A4×Unit)×(B0×B1×Unit))=>F (fun a0 a1 a2 a3 a4 b0 b1=>k ((a0,a1,a2,a3,a4,()),(b0,b1,()))) v.1.1 v.1.2.1 v.1.2.2.1 v.1.2.2.2.1 v.1.2.2.2.2.1 v.2.1 v.2.2.1) ((a0,a1,a2,a3,a4,()),(b0,b1,()))
def it_6_1 {A0 A1 A2 A3 A4 A5 B0 R:Type} (F:(A0→A1→A2→A3→A4→A5→B0→Option R)→A0→A1→A2→A3→A4→A5→B0→Option R) (n:Nat) (a0:A0) (a1:A1) (a2:A2) (a3:A3) (a4:A4) (a5:A5) (b0:B0):Option R:=iterK n (fun k (v:(A0×A1×A2×A3×A4×A5×Unit)×(B0×Unit))=>F (fun a0 a1 a2 a3 a4 a5 b0=>k ((a0,a1,a2,a3,a4,a5,()),(b0,()))) v.1.1 v.1.2.1 v.1.2.2.1 v.1.2.2.2.1 v.1.2.2.2.2.1 v.1.2.2.2.2.2.1 v.2.1) ((a0,a1,a2,a3,a4,a5,()),(b0,()))
def it_6_2 {A0 A1 A2 A3 A4 A5 B0 B1 R:Type} (F:(A0→A1→A2→A3→A4→A5→B0→B1→Option R)→A0→A1→A2→A3→A4→A5→B0→B1→Option R) (n:Nat) (a0:A0) (a1:A1) (a2:A2) (a3:A3) (a4:A4) (a5:A5) (b0:B0) (b1:B1):Option R:=iterK n (fun k (v:(A0×A1×A2×A3×A4×A5×Unit)×(B0×B1×Unit))=>F (fun a0 a1 a2 a3 a4 a5 b0 b1=>k ((a0,a1,a2,a3,a4,a5,()),(b0,b1,()))) v.1.1 v.1.2.1 v.1.2.2.1 v.1.2.2.2.1 v.1.2.2.2.2.1 v.1.2.2.2.2.2.1 v.2.1 v.2.2.1) ((a0,a1,a2,a3,a4,a5,()),(b0,b1,()))
def it_6_3 {A0 A1 A2 A3 A4 A5 B0 B1 B2 R:Type} (F:(A0→A1→A2→A3→A4→A5→B0→B1→B2→Option R)→A0→A1→A2→A3→A4→A5→B0→B1→B2→Option R) (n:Nat) (a0:A0) (a1:A1) (a2:A2) (a3:A3) (a4:A4) (a5:A5) (b0:B0) (b1:B1) (b2:B2):Option R:=iterK n (fun k (v:(A0×A1×A2×A3×A4×A5×Unit)×(B0×B1×B2×Unit))=>F (fun a0 a1 a2 a3 a4 a5 b0 b1 b2=>k ((a0,a1,a2,a3,a4,a5,()),(b0,b1,b2,()))) v.1.1 v.1.2.1 v.1.2.2.1 v.1.2.2.2.1 v.1.2.2.2.2.1 v.1.2.2.2.2.2.1 v.2.1 v.2.2.1 v.2.2.2.1) ((a0,a1,a2,a3,a4,a5,()),(b0,b1,b2,()))
def it_7_1 {A0 A1 A2 A3 A4 A5 A6 B0 R:Type} (F:(A0→A1→A2→A3→A4→A5→A6→B0→Option R)→A0→A1→A2→A3→A4→A5→A6→B0→Option R) (n:Nat) (a0:A0) (a1:A1) (a2:A2) (a3:A3) (a4:A4) (a5:A5) (a6:A6) (b0:B0):Option R:=iterK n (fun k (v:(A0×A1×A2×A3×A4×A5×A6×Unit)×(B0×Unit))=>F (fun a0 a1 a2 a3 a4 a5 a6 b0=>k ((a0,a1,a2,a3,a4,a5,a6,()),(b0,()))) v.1.1 v.1.2.1 v.1.2.2.1 v.1.2.2.2.1 v.1.2.2.2.2.1 v.1.2.2.2.2.2.1 v.1.2.2.2.2.2.2.1 v.2.1) ((a0,a1,a2,a3,a4,a5,a6,()),(b0,()))
def it_8_2 {A0 A1 A2 A3 A4 A5 A6 A7 B0 B1 R:Type} (F:(A0→A1→A2→A3→A4→A5→A6→A7→B0→B1→Option R)→A0→A1→A2→A3→A4→A5→A6→A7→B0→B1→Option R) (n:Nat) (a0:A0) (a1:A1) (a2:A2) (a3:A3) (a4:A4) (a5:A5) (a6:A6) (a7:A7) (b0:B0) (b1:B1):Option R:=iterK n (fun k (v:(A0×A1×A2×A3×A4×A5×A6×A7×Unit)×(B0×B1×Unit))=>F (fun a0 a1 a2 a3 a4 a5 a6 a7 b0 b1=>k ((a0,a1,a2,a3,a4,a5,a6,a7,()),(b0,b1,()))) v.1.1 v.1.2.1 v.1.2.2.1 v.1.2.2.2.1 v.1.2.2.2.2.1 v.1.2.2.2.2.2.1 v.1.2.2.2.2.2.2.1 v.1.2.2.2.2.2.2.2.1 v.2.1 v.2.2.1) ((a0,a1,a2,a3,a4,a5,a6,a7,()),(b0,b1,()))
def it_12_1 {A0 A1 A2 A3 A4 A5 A6 A7 A8 A9 A10 A11 B0 R:Type} (F:(A0→A1→A2→A3→A4→A5→A6→A7→A8→A9→A10→A11→B0→Option R)→A0→A1→A2→A3→A4→A5→A6→A7→A8→A9→A10→A11→B0→Option R) (n:Nat) (a0:A0) (a1:A1) (a2:A2) (a3:A3) (a4:A4) (a5:A5) (a6:A6) (a7:A7) (a8:A8) (a9:A9) (a10:A10) (a11:A11) (b0:B0):Option R:=iterK n (fun k (v:(A0×A1×A2×A3×A4×A5×A6×A7×A8×A9×A10×A11×Unit)×(B0×Unit))=>F (fun a0 a1 a2 a3 a4 a5 a6 a7 a8 a9 a10 a11 b0=>k ((a0,a1,a2,a3,a4,a5,a6,a7,a8,a9,a10,a11,()),(b0,()))) v.1.1 v.1.2.1 v.1.2.2.1 v.1.2.2.2.1 v.1.2.2.2.2.1 v.1.2.2.2.2.2.1 v.1.2.2.2.2.2.2.1 v.1.2.2.2.2.2.2.2.1 v.1.2.2.2.2.2.2.2.2.1 v.1.2.2.2.2.2.2.2.2.2.1 v.1.2.2.2.2.2.2.2.2.2.2.1 v.1.2.2.2.2.2.2.2.2.2.2.2.1 v.2.1) ((a0,a1,a2,a3,a4,a5,a6,a7,a8,a9,a10,a11,()),(b0,()))
theorem run2 {A0 A1 R:Type} (F:(A0→A1→R)→A0→A1→R) (L:Nat→A0→A1→R) (hs:∀m a0 a1,L (m+1) a0 a1=F (L m) a0 a1) (a0:Nat→A0) (a1:Nat→A1) (n:Nat) {res_:R} (h:∀j,j<n→∀k,F k (a0 j) (a1 j)=k (a0 (j+1)) (a1 (j+1))) (e:∀k,F k (a0 n) (a1 n)=res_) (m:Nat) (hm:n<m):L m (a0 0) (a1 0)=res_:=
 loop_run (L:=fun m x=>L m x.1 x.2) (B:=fun k x=>F (fun a0 a1=>k (a0,a1)) x.1 x.2) (fun m x=>hs m x.1 x.2) (fun j=>(a0 j,a1 j)) n (fun j hj k=>h j hj _) (fun k=>e _) m hm
theorem run3 {A0 A1 A2 R:Type} (F:(A0→A1→A2→R)→A0→A1→A2→R) (L:Nat→A0→A1→A2→R) (hs:∀m a0 a1 a2,L (m+1) a0 a1 a2=F (L m) a0 a1 a2) (a0:Nat→A0) (a1:Nat→A1) (a2:Nat→A2) (n:Nat) {res_:R} (h:∀j,j<n→∀k,F k (a0 j) (a1 j) (a2 j)=k (a0 (j+1)) (a1 (j+1)) (a2 (j+1))) (e:∀k,F k (a0 n) (a1 n) (a2 n)=res_) (m:Nat) (hm:n<m):L m (a0 0) (a1 0) (a2 0)=res_:=
 loop_run (L:=fun m x=>L m x.1 x.2.1 x.2.2) (B:=fun k x=>F (fun a0 a1 a2=>k (a0,a1,a2)) x.1 x.2.1 x.2.2) (fun m x=>hs m x.1 x.2.1 x.2.2) (fun j=>(a0 j,a1 j,a2 j)) n (fun j hj k=>h j hj _) (fun k=>e _) m hm
theorem run4 {A0 A1 A2 A3 R:Type} (F:(A0→A1→A2→A3→R)→A0→A1→A2→A3→R) (L:Nat→A0→A1→A2→A3→R) (hs:∀m a0 a1 a2 a3,L (m+1) a0 a1 a2 a3=F (L m) a0 a1 a2 a3) (a0:Nat→A0) (a1:Nat→A1) (a2:Nat→A2) (a3:Nat→A3) (n:Nat) {res_:R} (h:∀j,j<n→∀k,F k (a0 j) (a1 j) (a2 j) (a3 j)=k (a0 (j+1)) (a1 (j+1)) (a2 (j+1)) (a3 (j+1))) (e:∀k,F k (a0 n) (a1 n) (a2 n) (a3 n)=res_) (m:Nat) (hm:n<m):L m (a0 0) (a1 0) (a2 0) (a3 0)=res_:=
 loop_run (L:=fun m x=>L m x.1 x.2.1 x.2.2.1 x.2.2.2) (B:=fun k x=>F (fun a0 a1 a2 a3=>k (a0,a1,a2,a3)) x.1 x.2.1 x.2.2.1 x.2.2.2) (fun m x=>hs m x.1 x.2.1 x.2.2.1 x.2.2.2) (fun j=>(a0 j,a1 j,a2 j,a3 j)) n (fun j hj k=>h j hj _) (fun k=>e _) m hm
theorem run5 {A0 A1 A2 A3 A4 R:Type} (F:(A0→A1→A2→A3→A4→R)→A0→A1→A2→A3→A4→R) (L:Nat→A0→A1→A2→A3→A4→R) (hs:∀m a0 a1 a2 a3 a4,L (m+1) a0 a1 a2 a3 a4=F (L m) a0 a1 a2 a3 a4) (a0:Nat→A0) (a1:Nat→A1) (a2:Nat→A2) (a3:Nat→A3) (a4:Nat→A4) (n:Nat) {res_:R} (h:∀j,j<n→∀k,F k (a0 j) (a1 j) (a2 j) (a3 j) (a4 j)=k (a0 (j+1)) (a1 (j+1)) (a2 (j+1)) (a3 (j+1)) (a4 (j+1))) (e:∀k,F k (a0 n) (a1 n) (a2 n) (a3 n) (a4 n)=res_) (m:Nat) (hm:n<m):L m (a0 0) (a1 0) (a2 0) (a3 0) (a4 0)=res_:=
 loop_run (L:=fun m x=>L m x.1 x.2.1 x.2.2.1 x.2.2.2.1 x.2.2.2.2) (B:=fun k x=>F (fun a0 a1 a2 a3 a4=>k (a0,a1,a2,a3,a4)) x.1 x.2.1 x.2.2.1 x.2.2.2.1 x.2.2.2.2) (fun m x=>hs m x.1 x.2.1 x.2.2.1 x.2.2.2.1 x.2.2.2.2) (fun j=>(a0 j,a1 j,a2 j,a3 j,a4 j)) n (fun j hj k=>h j hj _) (fun k=>e _) m hm
theorem run6 {A0 A1 A2 A3 A4 A5 R:Type} (F:(A0→A1→A2→A3→A4→A5→R)→A0→A1→A2→A3→A4→A5→R) (L:Nat→A0→A1→A2→A3→A4→A5→R) (hs:∀m a0 a1 a2 a3 a4 a5,L (m+1) a0 a1 a2 a3 a4 a5=F (L m) a0 a1 a2 a3 a4 a5) (a0:Nat→A0) (a1:Nat→A1) (a2:Nat→A2) (a3:Nat→A3) (a4:Nat→A4) (a5:Nat→A5) (n:Nat) {res_:R} (h:∀j,j<n→∀k,F k (a0 j) (a1 j) (a2 j) (a3 j) (a4 j) (a5 j)=k (a0 (j+1)) (a1 (j+1)) (a2 (j+1)) (a3 (j+1)) (a4 (j+1)) (a5 (j+1))) (e:∀k,F k (a0 n) (a1 n) (a2 n) (a3 n) (a4 n) (a5 n)=res_) (m:Nat) (hm:n<m):L m (a0 0) (a1 0) (a2 0) (a3 0) (a4 0) (a5 0)=res_:=
 loop_run (L:=fun m x=>L m x.1 x.2.1 x.2.2.1 x.2.2.2.1 x.2.2.2.2.1 x.2.2.2.2.2) (B:=fun k x=>F (fun a0 a1 a2 a3 a4 a5=>k (a0,a1,a2,a3,a4,a5)) x.1 x.2.1 x.2.2.1 x.2.2.2.1 x.2.2.2.2.1 x.2.2.2.2.2) (fun m x=>hs m x.1 x.2.1 x.2.2.1 x.2.2.2.1 x.2.2.2.2.1 x.2.2.2.2.2) (fun j=>(a0 j,a1 j,a2 j,a3 j,a4 j,a5 j)) n (fun j hj k=>h j hj _) (fun k=>e _) m hm
theorem run7 {A0 A1 A2 A3 A4 A5 A6 R:Type} (F:(A0→A1→A2→A3→A4→A5→A6→R)→A0→A1→A2→A3→A4→A5→A6→R) (L:Nat→A0→A1→A2→A3→A4→A5→A6→R) (hs:∀m a0 a1 a2 a3 a4 a5 a6,L (m+1) a0 a1 a2 a3 a4 a5 a6=F (L m) a0 a1 a2 a3 a4 a5 a6) (a0:Nat→A0) (a1:Nat→A1) (a2:Nat→A2) (a3:Nat→A3) (a4:Nat→A4) (a5:Nat→A5) (a6:Nat→A6) (n:Nat) {res_:R} (h:∀j,j<n→∀k,F k (a0 j) (a1 j) (a2 j) (a3 j) (a4 j) (a5 j) (a6 j)=k (a0 (j+1)) (a1 (j+1)) (a2 (j+1)) (a3 (j+1)) (a4 (j+1)) (a5 (j+1)) (a6 (j+1))) (e:∀k,F k (a0 n) (a1 n) (a2 n) (a3 n) (a4 n) (a5 n) (a6 n)=res_) (m:Nat) (hm:n<m):L m (a0 0) (a1 0) (a2 0) (a3 0) (a4 0) (a5 0) (a6 0)=res_:=
 loop_run (L:=fun m x=>L m x.1 x.2.1 x.2.2.1 x.2.2.2.1 x.2.2.2.2.1 x.2.2.2.2.2.1 x.2.2.2.2.2.2) (B:=fun k x=>F (fun a0 a1 a2 a3 a4 a5 a6=>k (a0,a1,a2,a3,a4,a5,a6)) x.1 x.2.1 x.2.2.1 x.2.2.2.1 x.2.2.2.2.1 x.2.2.2.2.2.1 x.2.2.2.2.2.2) (fun m x=>hs m x.1 x.2.1 x.2.2.1 x.2.2.2.1 x.2.2.2.2.1 x.2.2.2.2.2.1 x.2.2.2.2.2.2) (fun j=>(a0 j,a1 j,a2 j,a3 j,a4 j,a5 j,a6 j)) n (fun j hj k=>h j hj _) (fun k=>e _) m hm
theorem run8 {A0 A1 A2 A3 A4 A5 A6 A7 R:Type} (F:(A0→A1→A2→A3→A4→A5→A6→A7→R)→A0→A1→A2→A3→A4→A5→A6→A7→R) (L:Nat→A0→A1→A2→A3→A4→A5→A6→A7→R) (hs:∀m a0 a1 a2 a3 a4 a5 a6 a7,L (m+1) a0 a1 a2 a3 a4 a5 a6 a7=F (L m) a0 a1 a2 a3 a4 a5 a6 a7) (a0:Nat→A0) (a1:Nat→A1) (a2:Nat→A2) (a3:Nat→A3) (a4:Nat→A4) (a5:Nat→A5) (a6:Nat→A6) (a7:Nat→A7) (n:Nat) {res_:R} (h:∀j,j<n→∀k,F k (a0 j) (a1 j) (a2 j) (a3 j) (a4 j) (a5 j) (a6 j) (a7 j)=k (a0 (j+1)) (a1 (j+1)) (a2 (j+1)) (a3 (j+1)) (a4 (j+1)) (a5 (j+1)) (a6 (j+1)) (a7 (j+1))) (e:∀k,F k (a0 n) (a1 n) (a2 n) (a3 n) (a4 n) (a5 n) (a6 n) (a7 n)=res_) (m:Nat) (hm:n<m):L m (a0 0) (a1 0) (a2 0) (a3 0) (a4 0) (a5 0) (a6 0) (a7 0)=res_:=
 loop_run (L:=fun m x=>L m x.1 x.2.1 x.2.2.1 x.2.2.2.1 x.2.2.2.2.1 x.2.2.2.2.2.1 x.2.2.2.2.2.2.1 x.2.2.2.2.2.2.2) (B:=fun k x=>F (fun a0 a1 a2 a3 a4 a5 a6 a7=>k (a0,a1,a2,a3,a4,a5,a6,a7)) x.1 x.2.1 x.2.2.1 x.2.2.2.1 x.2.2.2.2.1 x.2.2.2.2.2.1 x.2.2.2.2.2.2.1 x.2.2.2.2.2.2.2) (fun m x=>hs m x.1 x.2.1 x.2.2.1 x.2.2.2.1 x.2.2.2.2.1 x.2.2.2.2.2.1 x.2.2.2.2.2.2.1 x.2.2.2.2.2.2.2) (fun j=>(a0 j,a1 j,a2 j,a3 j,a4 j,a5 j,a6 j,a7 j)) n (fun j hj k=>h j hj _) (fun k=>e _) m hm
theorem run9 {A0 A1 A2 A3 A4 A5 A6 A7 A8 R:Type} (F:(A0→A1→A2→A3→A4→A5→A6→A7→A8→R)→A0→A1→A2→A3→A4→A5→A6→A7→A8→R) (L:Nat→A0→A1→A2→A3→A4→A5→A6→A7→A8→R) (hs:∀m a0 a1 a2 a3 a4 a5 a6 a7 a8,L (m+1) a0 a1 a2 a3 a4 a5 a6 a7 a8=F (L m) a0 a1 a2 a3 a4 a5 a6 a7 a8) (a0:Nat→A0) (a1:Nat→A1) (a2:Nat→A2) (a3:Nat→A3) (a4:Nat→A4) (a5:Nat→A5) (a6:Nat→A6) (a7:Nat→A7) (a8:Nat→A8) (n:Nat) {res_:R} (h:∀j,j<n→∀k,F k (a0 j) (a1 j) (a2 j) (a3 j) (a4 j) (a5 j) (a6 j) (a7 j) (a8 j)=k (a0 (j+1)) (a1 (j+1)) (a2 (j+1)) (a3 (j+1)) (a4 (j+1)) (a5 (j+1)) (a6 (j+1)) (a7 (j+1)) (a8 (j+1))) (e:∀k,F k (a0 n) (a1 n) (a2 n) (a3 n) (a4 n) (a5 n) (a6 n) (a7 n) (a8 n)=res_) (m:Nat) (hm:n<m):L m (a0 0) (a1 0) (a2 0) (a3 0) (a4 0) (a5 0) (a6 0) (a7 0) (a8 0)=res_:=
 loop_run (L:=fun m x=>L m x.1 x.2.1 x.2.2.1 x.2.2.2.1 x.2.2.2.2.1 x.2.2.2.2.2.1 x.2.2.2.2.2.2.1 x.2.2.2.2.2.2.2.1 x.2.2.2.2.2.2.2.2) (B:=fun k x=>F (fun a0 a1 a2 a3 a4 a5 a6 a7 a8=>k (a0,a1,a2,a3,a4,a5,a6,a7,a8)) x.1 x.2.1 x.2.2.1 x.2.2.2.1 x.2.2.2.2.1 x.2.2.2.2.2.1 x.2.2.2.2.2.2.1 x.2.2.2.2.2.2.2.1 x.2.2.2.2.2.2.2.2) (fun m x=>hs m x.1 x.2.1 x.2.2.1 x.2.2.2.1 x.2.2.2.2.1 x.2.2.2.2.2.1 x.2.2.2.2.2.2.1 x.2.2.2.2.2.2.2.1 x.2.2.2.2.2.2.2.2) (fun j=>(a0 j,a1 j,a2 j,a3 j,a4 j,a5 j,a6 j,a7 j,a8 j)) n (fun j hj k=>h j hj _) (fun k=>e _) m hm
theorem Zq3 {A0 A1 A2 A3 A4 A5 A6 A7 A8 A9 R:Type} (F:(A0→A1→A2→A3→A4→A5→A6→A7→A8→A9→R)→A0→A1→A2→A3→A4→A5→A6→A7→A8→A9→R) (L:Nat→A0→A1→A2→A3→A4→A5→A6→A7→A8→A9→R) (hs:∀m a0 a1 a2 a3 a4 a5 a6 a7 a8 a9,L (m+1) a0 a1 a2 a3 a4 a5 a6 a7 a8 a9=F (L m) a0 a1 a2 a3 a4 a5 a6 a7 a8 a9) (a0:Nat→A0) (a1:Nat→A1) (a2:Nat→A2) (a3:Nat→A3) (a4:Nat→A4) (a5:Nat→A5) (a6:Nat→A6) (a7:Nat→A7) (a8:Nat→A8) (a9:Nat→A9) (n:Nat) {res_:R} (h:∀j,j<n→∀k,F k (a0 j) (a1 j) (a2 j) (a3 j) (a4 j) (a5 j) (a6 j) (a7 j) (a8 j) (a9 j)=k (a0 (j+1)) (a1 (j+1)) (a2 (j+1)) (a3 (j+1)) (a4 (j+1)) (a5 (j+1)) (a6 (j+1)) (a7 (j+1)) (a8 (j+1)) (a9 (j+1))) (e:∀k,F k (a0 n) (a1 n) (a2 n) (a3 n) (a4 n) (a5 n) (a6 n) (a7 n) (a8 n) (a9 n)=res_) (m:Nat) (hm:n<m):L m (a0 0) (a1 0) (a2 0) (a3 0) (a4 0) (a5 0) (a6 0) (a7 0) (a8 0) (a9 0)=res_:=
 loop_run (L:=fun m x=>L m x.1 x.2.1 x.2.2.1 x.2.2.2.1 x.2.2.2.2.1 x.2.2.2.2.2.1 x.2.2.2.2.2.2.1 x.2.2.2.2.2.2.2.1 x.2.2.2.2.2.2.2.2.1 x.2.2.2.2.2.2.2.2.2) (B:=fun k x=>F (fun a0 a1 a2 a3 a4 a5 a6 a7 a8 a9=>k (a0,a1,a2,a3,a4,a5,a6,a7,a8,a9)) x.1 x.2.1 x.2.2.1 x.2.2.2.1 x.2.2.2.2.1 x.2.2.2.2.2.1 x.2.2.2.2.2.2.1 x.2.2.2.2.2.2.2.1 x.2.2.2.2.2.2.2.2.1 x.2.2.2.2.2.2.2.2.2) (fun m x=>hs m x.1 x.2.1 x.2.2.1 x.2.2.2.1 x.2.2.2.2.1 x.2.2.2.2.2.1 x.2.2.2.2.2.2.1 x.2.2.2.2.2.2.2.1 x.2.2.2.2.2.2.2.2.1 x.2.2.2.2.2.2.2.2.2) (fun j=>(a0 j,a1 j,a2 j,a3 j,a4 j,a5 j,a6 j,a7 j,a8 j,a9 j)) n (fun j hj k=>h j hj _) (fun k=>e _) m hm
theorem Zq4 {A0 A1 A2 A3 A4 A5 A6 A7 A8 A9 A10 A11 A12 R:Type} (F:(A0→A1→A2→A3→A4→A5→A6→A7→A8→A9→A10→A11→A12→R)→A0→A1→A2→A3→A4→A5→A6→A7→A8→A9→A10→A11→A12→R) (L:Nat→A0→A1→A2→A3→A4→A5→A6→A7→A8→A9→A10→A11→A12→R) (hs:∀m a0 a1 a2 a3 a4 a5 a6 a7 a8 a9 a10 a11 a12,L (m+1) a0 a1 a2 a3 a4 a5 a6 a7 a8 a9 a10 a11 a12=F (L m) a0 a1 a2 a3 a4 a5 a6 a7 a8 a9 a10 a11 a12) (a0:Nat→A0) (a1:Nat→A1) (a2:Nat→A2) (a3:Nat→A3) (a4:Nat→A4) (a5:Nat→A5) (a6:Nat→A6) (a7:Nat→A7) (a8:Nat→A8) (a9:Nat→A9) (a10:Nat→A10) (a11:Nat→A11) (a12:Nat→A12) (n:Nat) {res_:R} (h:∀j,j<n→∀k,F k (a0 j) (a1 j) (a2 j) (a3 j) (a4 j) (a5 j) (a6 j) (a7 j) (a8 j) (a9 j) (a10 j) (a11 j) (a12 j)=k (a0 (j+1)) (a1 (j+1)) (a2 (j+1)) (a3 (j+1)) (a4 (j+1)) (a5 (j+1)) (a6 (j+1)) (a7 (j+1)) (a8 (j+1)) (a9 (j+1)) (a10 (j+1)) (a11 (j+1)) (a12 (j+1))) (e:∀k,F k (a0 n) (a1 n) (a2 n) (a3 n) (a4 n) (a5 n) (a6 n) (a7 n) (a8 n) (a9 n) (a10 n) (a11 n) (a12 n)=res_) (m:Nat) (hm:n<m):L m (a0 0) (a1 0) (a2 0) (a3 0) (a4 0) (a5 0) (a6 0) (a7 0) (a8 0) (a9 0) (a10 0) (a11 0) (a12 0)=res_:=
 loop_run (L:=fun m x=>L m x.1 x.2.1 x.2.2.1 x.2.2.2.1 x.2.2.2.2.1 x.2.2.2.2.2.1 x.2.2.2.2.2.2.1 x.2.2.2.2.2.2.2.1 x.2.2.2.2.2.2.2.2.1 x.2.2.2.2.2.2.2.2.2.1 x.2.2.2.2.2.2.2.2.2.2.1 x.2.2.2.2.2.2.2.2.2.2.2.1 x.2.2.2.2.2.2.2.2.2.2.2.2) (B:=fun k x=>F (fun a0 a1 a2 a3 a4 a5 a6 a7 a8 a9 a10 a11 a12=>k (a0,a1,a2,a3,a4,a5,a6,a7,a8,a9,a10,a11,a12)) x.1 x.2.1 x.2.2.1 x.2.2.2.1 x.2.2.2.2.1 x.2.2.2.2.2.1 x.2.2.2.2.2.2.1 x.2.2.2.2.2.2.2.1 x.2.2.2.2.2.2.2.2.1 x.2.2.2.2.2.2.2.2.2.1 x.2.2.2.2.2.2.2.2.2.2.1 x.2.2.2.2.2.2.2.2.2.2.2.1 x.2.2.2.2.2.2.2.2.2.2.2.2) (fun m x=>hs m x.1 x.2.1 x.2.2.1 x.2.2.2.1 x.2.2.2.2.1 x.2.2.2.2.2.1 x.2.2.2.2.2.2.1 x.2.2.2.2.2.2.2.1 x.2.2.2.2.2.2.2.2.1 x.2.2.2.2.2.2.2.2.2.1 x.2.2.2.2.2.2.2.2.2.2.1 x.2.2.2.2.2.2.2.2.2.2.2.1 x.2.2.2.2.2.2.2.2.2.2.2.2) (fun j=>(a0 j,a1 j,a2 j,a3 j,a4 j,a5 j,a6 j,a7 j,a8 j,a9 j,a10 j,a11 j,a12 j)) n (fun j hj k=>h j hj _) (fun k=>e _) m hm
end
end Go.Rx
namespace Go.Rx
noncomputable section
open Go.RowKit
variable {P:Program} {C:Ctx}
def Rng:(t:Ty)→t.den→Prop
 | .int k,x=>(Lit.int k x).wf=true
 | .bool,_=>True
 | .str,s=>s.size≤maxLen
 | .err,_=>True
 | .prod a b,x=>Rng a x.1∧Rng b x.2
 | .slice _ t,xs=>xs.length≤maxLen∧∀i,i<xs.length→Rng t (xs.getD i t.dflt)
 | .arr n t,xs=>xs.length=n∧∀i,i<n→Rng t (xs.getD i t.dflt)
def Good (w:World) (u:Ty) (cs:List Value):Prop:=∃x g,cs=cells u x g∧Holds w (fun _ k=>k<w.heap.size) u .ro x g∧Rng u x
theorem ZeB {t:TypeId} {u:Ty} (hT:TabOk P C) (ht:C.ty t=some u):P.cellsOf t=u.sz:=by
 obtain ⟨i,h1,h2,_⟩:=Ziq hT ht;simp [Program.cellsOf,h1,h2]
theorem Zm8 {α:Type} {n:Nat} {Pr:Nat→α→Gh→Prop} (d:α) (h:∀i,i<n→∃x g,Pr i x g):∃(xs:List α) (gs:Nat→Gh),xs.length=n∧∀i,i<n→Pr i (xs.getD i d) (gs i):=by
 induction n with
 | zero=>exact ⟨[],fun _=> .leaf,rfl,fun i hi=>absurd hi (by omega)⟩
 | succ n ih=>
  obtain ⟨xs,gs,h1,h2⟩:=ih (fun i hi=>h i (by omega))
  obtain ⟨x,g,hx⟩:=h n (by omega);refine ⟨xs++[x],fun i=>if i=n then g else gs i,by simp [h1],fun i hi=> ?_⟩;by_cases e:i=n
  ·subst e
   have:(xs++[x]).getD i d=x:=by simp [List.getD_eq_getElem?_getD,←h1]
   simp only[this,if_true];exact hx
  ·have hi':i<n:=by omega
   have:(xs++[x]).getD i d=xs.getD i d:=by simp only[List.getD_eq_getElem?_getD];rw[List.getElem?_append_left (by omega)]
   simp only[this,if_neg e];exact h2 i hi'
theorem ZhX {w:World}:∀(n:Nat) (ty:Ty) (cs:List Value),1≤n→cs.length=ty.sz→(∀f,f<n→∃u,tyAt ty (fieldPath n f)=some u∧Good w u ((cs.drop (offOf ty (fieldPath n f))).take u.sz))→Good w ty cs
 | 0,_,_,h,_,_=>by omega
 | 1,ty,cs,_,hl,h=>by
  obtain ⟨u,h1,h2⟩:=h 0 (by omega);simp only[fieldPath] at h1 h2;have e1:tyAt ty []=some ty:=by cases ty<;>rfl
  have e2:offOf ty []=0:=by cases ty<;>rfl
  rw[e1] at h1;cases h1;rw[e2,List.drop_zero,←hl,List.take_length] at h2;exact h2
 | n+2,ty,cs,_,hl,h=>by
  cases ty with
  | prod a b=>
   obtain ⟨u,h1,h2⟩:=h 0 (by omega);have e1:tyAt (.prod a b) (fieldPath (n+2) 0)=some a:=by show tyAt a []=some a;cases a<;>rfl
   have e2:offOf (.prod a b) (fieldPath (n+2) 0)=0:=by show offOf a []=0;cases a<;>rfl
   rw[e1] at h1;cases h1;rw[e2,List.drop_zero] at h2;simp only[Ty.sz] at hl;have hb:=ZhX (w:=w) (n+1) b (cs.drop a.sz) (by omega) (by simp;omega) (fun f hf=>by
    obtain ⟨u,g1,g2⟩:=h (f+1) (by omega);refine ⟨u,g1, ?_⟩;have e3:offOf (.prod a b) (fieldPath (n+2) (f+1))=a.sz+offOf b (fieldPath (n+1) f):=rfl;rw[e3] at g2;rw[List.drop_drop];exact g2)
   obtain ⟨x,g,q1,q2,q3⟩:=h2;obtain ⟨y,g',r1,r2,r3⟩:=hb;refine ⟨(x,y), .pr g g', ?_,⟨q2,r2⟩,⟨q3,r3⟩⟩;show cs=cells a x g++cells b y g';rw[←q1,←r1,List.take_append_drop]
  | _=>
   obtain ⟨u,h1,_⟩:=h 0 (by omega);simp [fieldPath,tyAt] at h1
theorem ZiD {H:Type} {enc:TypeId×Value→H} {w:World} (hT:TabOk P C):∀(fuel:Nat) (ty:Ty) (t:TypeId) (cs:List Value) (x:DataW H×List MemPlace),C.ty t=some ty→DataW.trod enc P w 0 (fun _=>true) true fuel t cs=some x→Good w ty cs
 | 0,_,_,_,_,_,h=>by simp [DataW.trod] at h
 | fuel+1,ty,t,cs,x,ht,h=>by
  obtain ⟨ti,_,hti,hok,hnf,_⟩:=Zbu hT ht;have hd:=hok.desc;rw[hti] at hd;cases ty with
  | int k=>
   have hd:P.underlying t=some (.int k):=hd
   match cs,h with
   | [v],h=>
    cases v<;>simp [DataW.trod,hd] at h
    rename_i k' n;obtain ⟨⟨rfl,h2⟩,_⟩:=h;exact ⟨n, .leaf,rfl,trivial,h2⟩
   | [],h=>simp [DataW.trod,hd] at h
   | _::_::_,h=>simp [DataW.trod,hd] at h
  | bool=>
   have hd:P.underlying t=some .bool:=hd
   match cs,h with
   | [v],h=>
    cases v<;>simp [DataW.trod,hd] at h
    rename_i b;exact ⟨b, .leaf,rfl,trivial,trivial⟩
   | [],h=>simp [DataW.trod,hd] at h
   | _::_::_,h=>simp [DataW.trod,hd] at h
  | str=>
   have hd:P.underlying t=some .string:=hd
   match cs,h with
   | [v],h=>
    cases v<;>simp [DataW.trod,hd] at h
    rename_i s;exact ⟨s, .leaf,rfl,trivial,h.1⟩
   | [],h=>simp [DataW.trod,hd] at h
   | _::_::_,h=>simp [DataW.trod,hd] at h
  | err=>
   obtain ⟨ms,hd⟩:∃ms,P.underlying t=some (.interface ms):=hd
   match cs,h with
   | [v],h=>
    cases v<;>simp [DataW.trod,hd] at h
    case nilIface=>exact ⟨true, .hd .nilIface,rfl, .inl ⟨rfl,rfl⟩,trivial⟩
    case iface u v=>exact ⟨false, .hd (.iface u v),rfl, .inr ⟨u,v,rfl,rfl⟩,trivial⟩
   | [],h=>simp [DataW.trod,hd] at h
   | _::_::_,h=>simp [DataW.trod,hd] at h
  | prod a b=>
   obtain ⟨fs,hu,hsz,hf⟩:∃fs:Array Field,P.underlying t=some (.struct fs)∧fs.size=ti.nf∧∀f,f<ti.nf→∃(fl:Field) (u:Ty),fs[f]? =some fl∧tyAt (.prod a b) (fieldPath ti.nf f)=some u∧C.ty fl.type=some u∧fl.offset=offOf (.prod a b) (fieldPath ti.nf f):=hd
   have hcs:=ZeB hT ht;simp only[DataW.trod,hu] at h;split at h
   case isFalse=>cases h
   rename_i hl;rw[hcs] at hl;simp only[Option.map_eq_some_iff] at h;obtain ⟨xs,h,_⟩:=h;have hpos:1≤ti.nf:=by
    rcases hok.nf (by rw[hti];rfl) with h0 | ⟨n,u,h0⟩
    ·exact h0
    ·rw[hti] at h0;cases h0
   refine ZhX ti.nf _ cs hpos hl (fun f hff=> ?_);obtain ⟨fl,u,h1,h2,h3,h4⟩:=hf f hff;have hg:=mapM_some_get h f fl (by simpa using h1);have hlen:=mapM_some_length h;have hxf:∃y,xs[f]? =some y:=⟨_,List.getElem?_eq_getElem (by rw[hlen];simp;omega)⟩
   obtain ⟨y,hy⟩:=hxf;rw[hy] at hg;refine ⟨u,h2, ?_⟩;rw[←h4,←ZeB hT h3];exact ZiD hT fuel u fl.type _ y h3 hg
  | arr n u=>
   obtain ⟨e,hu,he⟩:∃e,P.underlying t=some (.array n e)∧C.ty e=some u:=hd
   have hcs:=ZeB hT ht;have hce:=ZeB hT he;have hpos:=ZdQ hT he;simp only[DataW.trod,hu] at h;split at h
   case isFalse=>cases h
   rename_i hl;rw[hcs] at hl;simp only[Option.map_eq_some_iff] at h;obtain ⟨xs,h,_⟩:=h;have hlen:=mapM_some_length h;have hall:∀i,i<n→∃y g,((cs.drop (i*u.sz)).take u.sz=cells u y g∧Holds w (fun _ k=>k<w.heap.size) u .ro y g∧Rng u y):=fun i hi=>by
    have hg:=mapM_some_get h i i (by simp [hi]);obtain ⟨z,hz⟩:∃z,xs[i]? =some z:=⟨_,List.getElem?_eq_getElem (by rw[hlen];simpa using hi)⟩
    rw[hz,hce] at hg;exact ZiD hT fuel u e _ z he hg
   obtain ⟨ys,gs,h1,h2⟩:=Zm8 u.dflt hall;refine ⟨ys, .many gs, ?_,⟨h1,fun i hi=>(h2 i hi).2.1⟩,h1,fun i hi=>(h2 i hi).2.2⟩;show cs=catN (fun i=>cells u (ys.getD i u.dflt) (gs i)) n
   refine ZbR (s:=u.sz) (fun i _=>Za _ _ _) hpos hl (fun i j hi hj=> ?_);rw[←(h2 i hi).1,List.getElem?_take,if_pos hj,List.getElem?_drop]
  | slice e u=>
   obtain ⟨hu,he⟩:P.underlying t=some (.slice e)∧C.ty e=some u:=hd;have hce:=ZeB hT he;have hpos:=ZdQ hT he
   match cs,h with
   | [v],h=>
    cases v with
    | slice A len cap=>
     cases A with
     | none=>
      match len,cap,h with
      | 0,0,h=>exact ⟨([]:List u.den), .row (.slice none 0 0) fun _=> .leaf,rfl,zero_ro w _ (.slice e u),by simp [Rng]⟩
      | _+1,_,h=>simp [DataW.trod,hu] at h
      | 0,_+1,h=>simp [DataW.trod,hu] at h
     | some a=>
      simp only[DataW.trod,hu] at h;split at h
      case isFalse=>cases h
      rename_i hc;obtain ⟨_,hle,hmax⟩:=hc;simp only[Option.bind_eq_some_iff,Option.map_eq_some_iff] at h;obtain ⟨xs,h,_,_,_⟩:=h;have hlen:=mapM_some_length h;have hall:∀i,i<len→∃y g,((∃c0,w.cells? 0 (a.add (i*u.sz)) u.sz=some c0∧c0=cells u y g)∧Holds w (fun _ k=>k<w.heap.size) u .ro y g∧Rng u y):=fun i hi=>by
       have hg:=mapM_some_get h i i (by simp [hi]);obtain ⟨z,hz⟩:∃z,xs[i]? =some z:=⟨_,List.getElem?_eq_getElem (by rw[hlen];simpa using hi)⟩
       rw[hz,hce] at hg;simp only[Option.bind_eq_some_iff] at hg;obtain ⟨c0,hc0,hg⟩:=hg;obtain ⟨y,g,q1,q2,q3⟩:=ZiD hT fuel u e c0 z he hg;exact ⟨y,g,⟨c0,hc0,q1⟩,q2,q3⟩
      obtain ⟨ys,gs,h1,h2⟩:=Zm8 u.dflt hall;have hspot:0<len→a.spot=none∧a.block<w.heap.size:=fun hi=>by
       obtain ⟨⟨c0,hc0,_⟩,_⟩:=h2 0 hi;obtain ⟨_,hl0,hcell⟩:=World.cells?_some hc0;have:=hcell 0 hpos;have hsome:∃v,w.cell? ((a.add (0*u.sz)).add 0)=some v:=⟨c0[0]'(by omega),by rw[this];exact List.getElem?_eq_getElem _⟩
       obtain ⟨v,hv⟩:=hsome;have e0:(a.add (0*u.sz)).add 0=a:=by simp [Addr.add]
       rw[e0] at hv;unfold World.cell? at hv;split at hv
       ·rename_i c1 _ _ hh
        split at hv
        ·cases hv
        ·rename_i hsp
         exact ⟨by simpa using hsp,(Array.getElem?_eq_some_iff.1 hh).1⟩
       ·cases hv
      refine ⟨ys, .row (.slice (some a) len cap) gs,rfl, ?_,by rw[h1];omega,fun i hi=>(h2 i (by omega)).2.2⟩
      show (∃A cap',_∧_)∧_;refine ⟨⟨some a,cap,by rw[h1];rfl,by rw[h1];exact hle,fun hne ad had=> ?_,by simp,fun hne=> ?_,fun ad had=> ?_⟩,fun i hi=>(h2 i (by omega)).2.1⟩
      ·cases had
       have:0<ys.length:=List.length_pos_iff.2 hne;exact (hspot (by omega)).1
      ·have:0<ys.length:=List.length_pos_iff.2 hne
       exact ⟨a,rfl,(hspot (by omega)).2⟩
      ·cases had
       rw[h1];by_cases h0:len=0
       ·subst h0;intro j v hj;simp [catN] at hj
       ·refine memAt_catN (hspot (by omega)).1 (fun _ _=>Za _ _ _) (fun i hi=> ?_)
        obtain ⟨⟨c0,hc0,q1⟩,_⟩:=h2 i hi;obtain ⟨_,hl0,hcell⟩:=World.cells?_some hc0;intro j v hj;have hjl:j<u.sz:=by have:=(List.getElem?_eq_some_iff.1 hj).1;rw[Za] at this;exact this
        rw[hcell j hjl,q1];exact hj
    | _=>simp [DataW.trod,hu] at h
   | [],h=>simp [DataW.trod,hu] at h
   | _::_::_,h=>simp [DataW.trod,hu] at h
end
end Go.Rx
namespace Go.Rx
noncomputable section
open Go.RowKit
variable {P:Program} {C:Ctx}
theorem ZoJ {H:Type} {enc:TypeId×Value→H} {W:World} {r:Reach} {b0:Nat} {t:TypeId} {ty:Ty} {v:Value} {d:DataW H} {ps:List MemPlace} (hT:TabOk P C) (ht:C.ty t=some ty) (hval:Value.okWide P W r b0 t v)
  (hd:DataW.Trod enc P W 0 (fun _=>true) true t v d ps):∃x g,v=toV ty (cells ty x g)∧Holds W (fun _ k=>k<W.heap.size) ty .ro x g∧Rng ty x:=by
 obtain ⟨fuel,hf⟩:=hd;obtain ⟨x,g,h1,h2,h3⟩:=ZiD hT fuel ty t _ _ ht hf;refine ⟨x,g, ?_,h2,h3⟩;obtain ⟨ti,_,hti,hok,_⟩:=Zbu hT ht;have hdesc:=hok.desc;rw[hti] at hdesc;have key:ty.agg=true→v= .agg v.cells:=fun ha=>by
  cases ty with
  | prod a b=>
   obtain ⟨fs,hu,_⟩:=hdesc;unfold Value.okWide at hval;rw[hu] at hval;obtain ⟨cs,rfl,_⟩:=hval;rfl
  | arr n u=>
   obtain ⟨e,hu,_⟩:=hdesc;unfold Value.okWide at hval;rw[hu] at hval;obtain ⟨cs,rfl,_⟩:=hval;rfl
  | _=>simp [Ty.agg] at ha
 have key2:ty.agg=false→v.cells= #[v]:=fun ha=>by
  cases ty with
  | prod a b=>simp [Ty.agg] at ha
  | arr n u=>simp [Ty.agg] at ha
  | int k=>
   have hu:P.underlying t=some (.int k):=hdesc;unfold Value.okWide at hval;rw[hu] at hval;unfold Cell.okWide at hval;rw[hu] at hval;cases v<;>first | rfl | (unfold Cell.ok at hval;rw[hu] at hval;exact hval.elim)
  | bool=>
   have hu:P.underlying t=some .bool:=hdesc;unfold Value.okWide at hval;rw[hu] at hval;unfold Cell.okWide at hval;rw[hu] at hval;cases v<;>first | rfl | (unfold Cell.ok at hval;rw[hu] at hval;exact hval.elim)
  | str=>
   have hu:P.underlying t=some .string:=hdesc;unfold Value.okWide at hval;rw[hu] at hval;unfold Cell.okWide at hval;rw[hu] at hval;cases v<;>first | rfl | (unfold Cell.ok at hval;rw[hu] at hval;exact hval.elim)
  | err=>
   obtain ⟨ms,hu⟩:∃ms,P.underlying t=some (.interface ms):=hdesc
   unfold Value.okWide at hval;rw[hu] at hval;unfold Cell.okWide at hval;rw[hu] at hval;cases v<;>first | rfl | (unfold Cell.ok at hval;rw[hu] at hval;exact hval.elim)
  | slice e u=>
   obtain ⟨hu,_⟩:P.underlying t=some (.slice e)∧C.ty e=some u:=hdesc;unfold Value.okWide at hval;rw[hu] at hval;unfold Cell.okWide at hval;rw[hu] at hval;cases v<;>first | rfl | (unfold Cell.ok at hval;rw[hu] at hval;exact hval.elim)
 unfold toV;cases ha:ty.agg with
 | true=>
  rw[key ha];simp only[if_true];rw[←h1]
 | false=>
  simp only[Bool.false_eq_true,if_false];rw[←h1,key2 ha];rfl
theorem Zm9 [Laid P] {f:FuncId} {l:List Ty} {res:Ty} {p:Perm} {F:Unit→ADen l→Option (res.den×Unit)} (hs:Sat P f ⟨.none,l,res,1,p,F⟩) {W:World} {xs:ADen l} {vs:List Value} {r:res.den} (ha:ArgsOk W (fun _ k=>k<W.heap.size) l xs vs) (hD:Laid.D P W (fun _ k=>k<W.heap.size)) (hr:F () xs=some (r,())):
  Calls P f vs.toArray W fun e w'=>∃v g',e= .returned v∧v=toV res (cells res r g')∧Frame W [] w'∧∃T',Holds w' T' res p r g':=by
 refine (hs.2 W (fun _ k=>k<W.heap.size) () .leaf 0 xs [] vs (r,()) rfl ha (by simp [givFeet]) (by simp [givFeet]) (fun _ k hk=>⟨hk,by simp [givFeet]⟩) hD hr).mono fun e w' ⟨v,he,g',gh',T',h1,h2,h3,_⟩=> ?_
 exact ⟨v,g',he,by simpa using h2,h1,T',h3⟩
end
end Go.Rx
namespace Go.Rx
noncomputable section
open Go.RowKit
theorem Frame.below {W w':World} (h:Frame W [] w'):Below W.heap.size W w':=⟨h.os,h.tape,h.output,h.size,fun k hk=>h.block k hk (by simp)⟩
end
end Go.Rx
namespace Go.Rx
noncomputable section
open Go.RowKit
end
end Go.Rx
namespace Go.Rx
noncomputable section
open Go.RowKit
variable {P:Program}
def asciiB (s:Xo):Bool:=decide (s.size<4294967281) && s.data.toList.all fun b=>decide (b.toNat<128)
namespace Px
def strings_ContainsAny (N:Nat) (s c:Xo):Option (Bool×Unit):=chk (asciiB s && asciiB c)<| some (s.data.toList.any fun b=>c.data.toList.contains b,())
end Px
theorem ZhY {s:Xo} (h:asciiB s=true):s.size<4294967281∧∀(j:Nat) b,s.data.toList[j]? =some b→b.toNat<128:=by
 simp only[asciiB,Xh,Xi,List.all_eq_true] at h;exact ⟨h.1,fun j b hj=>h.2 b (List.mem_of_getElem? hj)⟩
theorem ZfF (c:List UInt8):∀s:List UInt8,0≤Lib.indexAny s c↔(s.any fun b=>c.contains b)=true
 | []=>by simp [Lib.indexAny]
 | b::l=>by
  have ih:=ZfF c l;have hge:=Lib.indexAny_ge c l;rw[List.any_cons,Bool.or_eq_true,←ih];have e0:Lib.indexAny (b::l) c=if c.contains b=true then 0 else if (Lib.indexAny l c== -1)=true then -1 else Lib.indexAny l c+1:=rfl
  by_cases hc:c.contains b=true
  ·rw[e0,if_pos hc]
   exact ⟨fun _=> .inl hc,fun _=>Int.le_refl _⟩
  ·rw[e0,if_neg hc]
   by_cases e:(Lib.indexAny l c== -1)=true
   ·rw[if_pos e]
    have e1:Lib.indexAny l c= -1:=by simpa using e
    exact ⟨fun h=>absurd h (by decide),fun h=>(h.resolve_left hc) |>fun h2=>by omega⟩
   ·rw[if_neg e]
    have e1:Lib.indexAny l c≠ -1:=by simpa using e
    exact ⟨fun h=> .inr (by omega),fun h=>by have:=h.resolve_left hc;omega⟩
theorem Zhm (c s:List UInt8):Lib.containsAny s c=s.any fun b=>c.contains b:=by
 rw[Bool.eq_iff_iff,←ZfF];simp only[Lib.containsAny,Xi]
theorem ZbE {α:Type} {b:Bool} {x:Option α} {r:α} (h:chk b x=some r):b=true∧x=some r:=by
 cases b with
 | true=>exact ⟨rfl,h⟩
 | false=>cases h
theorem ZeC {w:World} {T:TypeId→Nat→Prop} {xs:ADen [.str, .str]} {vs:List Value} (h:ArgsOk w T [.str, .str] xs vs):vs=[.string xs.1, .string xs.2.1]:=by
 obtain ⟨g,vs',rfl,_,g2,vs2,rfl,_,h3⟩:=h;have h3':vs2=[]:=h3;subst h3';rfl
theorem Zb7 {res:Ty} {n:Nat} {args:List Ty} {G:Giv.none.den→ADen args→Option (res.den×Giv.none.out)} {w w':World} {T:TypeId→Nat→Prop} {x:Giv.none.den} {gh g:Gh} {b:Nat} {r:res.den×Giv.none.out} {v:Value} (hb:Below w.heap.size w w') (hv:v=(if n=1 then toV res (cells res r.1 g) else .tuple (comps n res r.1 g).toArray))
  (hh:∀w T,Holds w T res .ro r.1 g) (hT:∀e k,T e k→k<w.heap.size):RetOk ⟨.none,args,res,n, .ro,G⟩ w T x gh b r v w':=by
 refine ⟨g, .leaf,T,⟨hb.os,hb.tape,hb.output,hb.size,fun k hk _=>hb.block k hk⟩,hv,hh _ _,trivial, ?_, ?_, ?_⟩
 ·simp [foot_ro,backFeet]
 ·simp [foot_ro,backFeet]
 ·intro e k hk
  refine ⟨.inl hk,Nat.lt_of_lt_of_le (hT e k hk) hb.size, ?_⟩;simp [foot_ro,backFeet]
theorem ZgN [Laid P] {N:Nat} {f:FuncId} {fn:Func} (hf:P.funcs[f]? =some fn) (hname:(fn.name== "runtime.NumGoroutine")=false) (hb0:fn.body.isSome=true)
  (h:∀(s c:Xo) (w:World),s.size<4294967281→c.size<4294967281→(∀(j:Nat) b,s.data.toList[j]? =some b→b.toNat<128)→(∀(j:Nat) b,c.data.toList[j]? =some b→b.toNat<128)→
   Calls P f #[.string s, .string c] w fun e w'=>e= .returned (.bool (Lib.containsAny s.data.toList c.data.toList))∧Below w.heap.size w w'):
  Sat P f ⟨.none,[.str, .str], .bool,1, .ro,fun _ x=>Px.strings_ContainsAny N x.1 x.2.1⟩:=by
 obtain ⟨c0,hc0⟩:=Option.isSome_iff_exists.1 hb0;refine ⟨⟨fn,c0,hf,hname,hc0⟩,fun w T x gh b xs vs0 vs r hg ha hnd hlt hT _ hr=> ?_⟩;have hg':vs0=[]:=hg;subst hg';rw[ZeC ha];obtain ⟨h1,h2⟩:=ZbE hr;simp only[Xh] at h1;cases h2;obtain ⟨a1,a2⟩:=ZhY h1.1;obtain ⟨b1,b2⟩:=ZhY h1.2;refine (h xs.1 xs.2.1 w a1 b1 a2 b2).mono fun e w' ⟨he,hb⟩=>⟨_,he, ?_⟩
 refine Zb7 (g:= .leaf) hb ?_ (fun _ _=>trivial) (fun e k hk=>(hT e k hk).1)
 rw[Zhm];rfl
end
end Go.Rx
namespace Go.Rx
noncomputable section
open Go.RowKit
variable {P:Program}
theorem ZoK [Laid P] {f:FuncId} {fn:Func} {g:Giv} {l:List Ty} {res:Ty} {n:Nat} {p:Perm} (hf:P.funcs[f]? =some fn) (hname:(fn.name== "runtime.NumGoroutine")=false) (hb0:fn.body.isSome=true):
  Sat P f ⟨g,l,res,n,p,fun _ _=>none⟩:=by
 obtain ⟨c0,hc0⟩:=Option.isSome_iff_exists.1 hb0;exact ⟨⟨fn,c0,hf,hname,hc0⟩,fun w T x gh b xs vs0 vs r hg ha hnd hlt hT hD hr=>by cases hr⟩
def errD (P:Program) (w:World) (T:TypeId→Nat→Prop):Prop:=
 ∀ge,P.globalNamed "strconv.ErrSyntax"=some ge→(∃e,T e ge)∧∃ev,w.cell? ⟨ge,0,none⟩=some ev∧(ev= .nilIface∨∃te pe,ev= .iface te pe)
def doorD (P:Program) (gm:Nat) (w:World) (T:TypeId→Nat→Prop):Prop:=
 ((∃e,T e gm)∧∃m,w.cell? ⟨gm,0,none⟩=some (.int .i64 m))∧
  ∃gt,P.globalNamed "internal/strconv.uint64pow10"=some gt∧((∃e,T e gt)∧errD P w T)∧Lib.TabIs P w "internal/strconv.uint64pow10" .u64 Lib.pow10Tab
theorem Zhn {w w':World} {name:String} {k:IntKind} {zs:List Int} {g:Nat} (hg:P.globalNamed name=some g) (hb:w'.heap[g]? =w.heap[g]?) (h:Lib.TabIs P w name k zs):Lib.TabIs P w' name k zs:=by
 unfold Lib.TabIs World.var? at h ⊢;rw[hg] at h ⊢;simp only[Xa] at h ⊢;rw[hb];exact h
theorem ZjG {gm:Nat} {w w':World} {T T':TypeId→Nat→Prop} (h:doorD P gm w T) (hk:∀e k,T e k→T' e k∧w'.heap[k]? =w.heap[k]?):doorD P gm w' T':=by
 obtain ⟨⟨⟨e1,h1⟩,m,h2⟩,gt,h3,⟨⟨e4,h4⟩,h6⟩,h5⟩:=h;refine ⟨⟨⟨e1,(hk e1 gm h1).1⟩,m, ?_⟩,gt,h3,⟨⟨e4,(hk e4 gt h4).1⟩,fun ge hg=> ?_⟩,Zhn h3 (hk e4 gt h4).2 h5⟩
 ·rw[World.cell?_of_block (w:=w) (hk e1 gm h1).2];exact h2
 ·obtain ⟨⟨e,he⟩,ev,hc,hv⟩:=h6 ge hg
  exact ⟨⟨e,(hk e ge he).1⟩,ev,by rw[World.cell?_of_block (w:=w) (hk e ge he).2];exact hc,hv⟩
abbrev doorLaid (P:Program) (gm:Nat):Laid P:=⟨doorD P gm,ZjG⟩
namespace Px
def shortB (s:Xo):Bool:=decide (s.size<4294967281)
def strings_Contains (N:Nat) (s c:Xo):Option (Bool×Unit):=chk (shortB s)<| some (Lib.contains s.data.toList c.data.toList,())
def strings_Cut (N:Nat) (s c:Xo):Option ((Xo×Xo×Bool)×Unit):=
 chk (shortB s)<| some ((⟨(Lib.cut s.data.toList c.data.toList).1.toArray⟩,⟨(Lib.cut s.data.toList c.data.toList).2.1.toArray⟩,(Lib.cut s.data.toList c.data.toList).2.2),())
def strconv_Itoa (N:Nat) (n:Int):Option (Xo×Unit):=chk (decide (-9223372036854775808≤n) && decide (n≤9223372036854775807))<| some (⟨(Lib.itoa n).toArray⟩,())
end Px
theorem Zna {k:IntKind} {w:World} {T:TypeId→Nat→Prop} {xs:ADen [.int k]} {vs:List Value} (h:ArgsOk w T [.int k] xs vs):vs=[.int k xs.1]:=by
 obtain ⟨g,vs',rfl,_,h3⟩:=h;have h3':vs'=[]:=h3;subst h3';rfl
theorem ZkB (B:Nat) (w:World) (n:Nat):Below B w (w.drewN n):=⟨rfl,rfl,rfl,Xl _,fun _ _=>rfl⟩
theorem ZjH (gm:Nat) {N:Nat} {f:FuncId} {fn:Func} (hf:P.funcs[f]? =some fn) (hname:(fn.name== "runtime.NumGoroutine")=false) (hb0:fn.body.isSome=true)
  (h:∀(s c:Xo) (m:Int) (w:World),s.size<4294967281→w.cell? ⟨gm,0,none⟩=some (.int .i64 m)→
   Calls P f #[.string s, .string c] w fun e w'=>e= .returned (.bool (Lib.contains s.data.toList c.data.toList))∧w'=w):
  letI:=doorLaid P gm;Sat P f ⟨.none,[.str, .str], .bool,1, .ro,fun _ x=>Px.strings_Contains N x.1 x.2.1⟩:=by
 letI:=doorLaid P gm
 obtain ⟨c0,hc0⟩:=Option.isSome_iff_exists.1 hb0;refine ⟨⟨fn,c0,hf,hname,hc0⟩,fun w T x gh b xs vs0 vs r hg ha hnd hlt hT hD hr=> ?_⟩;have hg':vs0=[]:=hg;subst hg';rw[ZeC ha];obtain ⟨h1,h2⟩:=ZbE hr;cases h2;obtain ⟨⟨_,m,hm⟩,_⟩:=hD;refine (h xs.1 xs.2.1 m w (of_decide_eq_true h1) hm).mono fun e w' ⟨he,hw⟩=>⟨_,he, ?_⟩
 subst hw;exact Zb7 (g:= .leaf) (Below.refl _ _) rfl (fun _ _=>trivial) (fun e k hk=>(hT e k hk).1)
theorem ZpW (gm:Nat) {N:Nat} {f:FuncId} {fn:Func} (hf:P.funcs[f]? =some fn) (hname:(fn.name== "runtime.NumGoroutine")=false) (hb0:fn.body.isSome=true)
  (h:∀(s c:Xo) (m:Int) (w:World),s.size<4294967281→w.cell? ⟨gm,0,none⟩=some (.int .i64 m)→
   Calls P f #[.string s, .string c] w fun e w'=>e= .returned (.tuple #[.string ⟨(Lib.cut s.data.toList c.data.toList).1.toArray⟩, .string ⟨(Lib.cut s.data.toList c.data.toList).2.1.toArray⟩, .bool (Lib.cut s.data.toList c.data.toList).2.2])∧∃n,w'=w.drewN n):
  letI:=doorLaid P gm;Sat P f ⟨.none,[.str, .str], .prod .str (.prod .str .bool),3, .ro,fun _ x=>Px.strings_Cut N x.1 x.2.1⟩:=by
 letI:=doorLaid P gm
 obtain ⟨c0,hc0⟩:=Option.isSome_iff_exists.1 hb0;refine ⟨⟨fn,c0,hf,hname,hc0⟩,fun w T x gh b xs vs0 vs r hg ha hnd hlt hT hD hr=> ?_⟩;have hg':vs0=[]:=hg;subst hg';rw[ZeC ha];obtain ⟨h1,h2⟩:=ZbE hr;cases h2;obtain ⟨⟨_,m,hm⟩,_⟩:=hD;refine (h xs.1 xs.2.1 m w (of_decide_eq_true h1) hm).mono fun e w' ⟨he,n,hw⟩=>⟨_,he, ?_⟩
 subst hw;exact Zb7 (g:= .leaf) (ZkB _ _ _) rfl (fun _ _=>by simp [Holds]) (fun e k hk=>(hT e k hk).1)
theorem ZoL (gm:Nat) {N:Nat} {f:FuncId} {fn:Func} (hf:P.funcs[f]? =some fn) (hname:(fn.name== "runtime.NumGoroutine")=false) (hb0:fn.body.isSome=true)
  (h:∀(n:Int), -9223372036854775808≤n→n≤9223372036854775807→∀w:World,Lib.TabIs P w "internal/strconv.uint64pow10" .u64 Lib.pow10Tab→
   Calls P f #[.int .i64 n] w fun e w'=>e= .returned (.string ⟨(Lib.itoa n).toArray⟩)∧∃k os,w'=Sort.grow (w.drewN k) os):
  letI:=doorLaid P gm;Sat P f ⟨.none,[.int .i64], .str,1, .ro,fun _ x=>Px.strconv_Itoa N x.1⟩:=by
 letI:=doorLaid P gm
 obtain ⟨c0,hc0⟩:=Option.isSome_iff_exists.1 hb0;refine ⟨⟨fn,c0,hf,hname,hc0⟩,fun w T x gh b xs vs0 vs r hg ha hnd hlt hT hD hr=> ?_⟩;have hg':vs0=[]:=hg;subst hg';rw[Zna ha];obtain ⟨h1,h2⟩:=ZbE hr;cases h2;simp only[Xh,Xi] at h1;obtain ⟨_,gt,_,_,ht⟩:=hD;refine (h xs.1 h1.1 h1.2 w ht).mono fun e w' ⟨he,k,os,hw⟩=>⟨_,he, ?_⟩
 subst hw;exact Zb7 (g:= .leaf) (Lib.below_grow _ _ (Xl _) _ _) rfl (fun _ _=>by simp [Holds]) (fun e k hk=>(hT e k hk).1)
end
end Go.Rx
namespace Go.Rx
noncomputable section
open Go.RowKit
section
variable {H:Type} {enc:TypeId×Value→H}
theorem ZjI {a:Assume} {C:Checked} {os:Os} {f:FuncId} {fn:Func} {s:ChangeSpec} {conds:List PathCond} {apart fresh handsOn again:Bool} {X:World→Array Value→Prop}
  (hX:∀(w w':World) (args:Array Value),w.heap=w'.heap→X w args→X w' args)
  (own:ownKnob C.prog.godebug=none) (started:os.Started) (noInit:C.prog.inits.idxOf? f=none) (hfn:C.prog.funcs[f]? =some fn)
  (witness:∃(w:World) (tape:Tape) (i:Input),w.os=os∧(w.forCall tape i).Shaped C.prog∧i.vars=[]∧Input.okWide C.prog (w.forCall tape i) .any w.heap.size f i∧
   ((s.pre enc C.prog fn conds apart (w.forCall tape i).memory i.args∧X (w.forCall tape i).memory i.args)∧sizedMet enc C.prog fn (OpenSpec.ofChange s) apart (w.forCall tape i).memory i.args)∧a.holds C.prog (lone (Frame.enter C.prog f i.args .normal) [] (w.forCall tape i)))
  (contract:∀(W:World) (base:Nat) (args:Array Value) (ds gs:List (DataW H)) (before:List MemPlace),
   (∀(j:Nat) t v,fn.params[j]? =some t→args[j]? =some v→Value.okWide C.prog W .any base t v)→
   DataW.Whole enc C.prog fn.params.toList s.vars apart W args.toList ds gs before→X W args→W.ShapedOpen C.prog→
   Calls C.prog f args W fun e W'=>∃v,e= .returned v∧s.post enc C.prog fn apart fresh handsOn again W args v W'):
  ReturnsInHanded a C os f .any (fun w args=>(s.pre enc C.prog fn conds apart w args∧X w args)∧sizedMet enc C.prog fn (OpenSpec.ofChange s) apart w args) (s.post enc C.prog fn apart fresh handsOn again):=by
 refine returnsInHanded_of_calls own started noInit witness ?_;intro w tape i _ hsh _ hok hpre hholds;obtain ⟨_,_,_,fn',hfn',_,_,_,_,hval⟩:=hok;have e:fn'=fn:=Option.some.inj (hfn'.symm.trans hfn);subst e;obtain ⟨⟨⟨ds,gs,before,hw,hc⟩,hx⟩,hz⟩:=hpre;have hw':=DataW.Whole.of_heap (w':=w.forCall tape i) (by rfl) hw;refine (contract (w.forCall tape i) w.heap.size i.args ds gs before hval hw' (hX _ _ _ (by rfl) hx) hsh).mono fun e W' ⟨v,he,hp⟩=> ?_
 subst he;exact ChangeSpec.post_blind hp
end
theorem ZeD {w:World} {a:Addr} {v:Value} (h:w.cell? a=some v):a.block<w.heap.size:=by
 rcases Nat.lt_or_ge a.block w.heap.size with h1 | h1
 ·exact h1
 ·unfold World.cell? at h
  rw[Array.getElem?_eq_none h1] at h;cases h
theorem ZjJ {P:Program} {w:World} {name:String} {k:IntKind} {zs:List Int} {g:Nat} (hg:P.globalNamed name=some g) (h:Lib.TabIs P w name k zs):g<w.heap.size:=by
 rcases Nat.lt_or_ge g w.heap.size with h1 | h1
 ·exact h1
 ·unfold Lib.TabIs World.var? at h
  rw[hg] at h;simp only[Xa] at h;rw[Array.getElem?_eq_none h1] at h;cases h
theorem Zmi {P:Program} {gm gt:Nat} {W:World} (hm:∃m,W.cell? ⟨gm,0,none⟩=some (.int .i64 m)) (hg:P.globalNamed "internal/strconv.uint64pow10"=some gt) (ht:Lib.TabIs P W "internal/strconv.uint64pow10" .u64 Lib.pow10Tab)
  (he:∀ge,P.globalNamed "strconv.ErrSyntax"=some ge→∃ev,W.cell? ⟨ge,0,none⟩=some ev∧(ev= .nilIface∨∃te pe,ev= .iface te pe)):
  doorD P gm W (fun _ k=>k<W.heap.size):=by
 obtain ⟨m,hm⟩:=hm;refine ⟨⟨⟨0,ZeD hm⟩,m,hm⟩,gt,hg,⟨⟨0,ZjJ hg ht⟩,fun ge hg2=> ?_⟩,ht⟩;obtain ⟨ev,hc,hv⟩:=he ge hg2;exact ⟨⟨0,ZeD hc⟩,ev,hc,hv⟩
theorem ZkC {P:Program} {W:World} {name nm:String} {d:DataW Unit} {rest:List (String×DataW Unit)} {g:Nat} {t:TypeId} {ms:Array (String×TypeId)}
  (hg:P.globalNamed name=some g) (hty:(P.globals[g]?).map (·.type)=some t) (ht:P.underlying t=some (.interface ms)) (h:laidMet P ((name, .iface nm d)::rest) W):
  ∀ge,P.globalNamed name=some ge→∃ev,W.cell? ⟨ge,0,none⟩=some ev∧(ev= .nilIface∨∃te pe,ev= .iface te pe):=by
 intro ge hge;obtain rfl:=Option.some.inj (hg.symm.trans hge);obtain ⟨ps,⟨g',t',cs,fuel,p,q,hg',ht',hvar,hd,_,_⟩,_⟩:=h;obtain rfl:=Option.some.inj (hg.symm.trans hg');obtain rfl:=Option.some.inj (hty.symm.trans ht');have key:∃ev,cs.toList=[ev]∧(ev= .nilIface∨∃te pe,ev= .iface te pe):=by
  cases fuel with
  | zero=>cases hd
  | succ fuel=>
   unfold DataW.trod at hd;rw[ht] at hd;generalize cs.toList=l at hd
   match l,hd with
   | [.nilIface],_=>exact ⟨_,rfl, .inl rfl⟩
   | [.iface u v],_=>exact ⟨_,rfl, .inr ⟨u,v,rfl⟩⟩
 obtain ⟨ev,h1,h2⟩:=key;have h3:=World.var?_cell hg hvar 0;refine ⟨ev, ?_,h2⟩;rw[h3];have:cs[0]? =cs.toList[0]? :=by simp
 rw[this,h1];rfl
theorem ZbV {P:Program} {x:String×DataW Unit} {r:List (String×DataW Unit)} {w:World} (h:laidMet P (x::r) w):laidMet P r w:=by
 obtain ⟨ps,hv,hnd,hrows⟩:=h;obtain ⟨n,d⟩:=x;obtain ⟨g,t,cs,fuel,p,q,_,_,_,_,hq,rfl⟩:=hv;exact ⟨q,hq,List.Nodup.sublist (List.sublist_append_right _ _) hnd,fun b off hm=>hrows b off (List.mem_append_right _ hm)⟩
end
end Go.Rx
namespace Go.Rx
noncomputable section
open Go.RowKit
variable {P:Program}
namespace Px
def joinB (xs:List Xo) (sep:Xo):Bool:=decide (xs.length≤140737488355328) && decide ((Lib.join (xs.map (·.data.toList)) sep.data.toList).length≤140737488355328)
def strings_Join (N:Nat) (xs:List Xo) (sep:Xo):Option (Xo×Unit):=chk (joinB xs sep)<| some (⟨(Lib.join (xs.map (·.data.toList)) sep.data.toList).toArray⟩,())
end Px
theorem ZoM [Laid P] {e:TypeId} {N:Nat} {f:FuncId} {fn:Func} (hf:P.funcs[f]? =some fn) (hname:(fn.name== "runtime.NumGoroutine")=false) (hb0:fn.body.isSome=true)
  (h0:∀(a:Option Addr) (c:Nat) (sep:Xo) (w:World),Calls P f #[.slice a 0 c, .string sep] w fun e w'=>e= .returned (.string ⟨#[]⟩)∧w'=w)
  (h:∀(bk o c:Nat) (xs:List Xo) (sep:Xo) (w:World),(∀(j:Nat) x,xs[j]? =some x→w.cell? ⟨bk,o+j,none⟩=some (.string x))→bk<w.heap.size→xs.length≤140737488355328→xs.length≤c→
   (Lib.join (xs.map (·.data.toList)) sep.data.toList).length≤140737488355328→
   Calls P f #[.slice (some ⟨bk,o,none⟩) xs.length c, .string sep] w fun e w'=>e= .returned (.string ⟨(Lib.join (xs.map (·.data.toList)) sep.data.toList).toArray⟩)∧Below w.heap.size w w'):
  Sat P f ⟨.none,[.slice e .str, .str], .str,1, .ro,fun _ x=>Px.strings_Join N x.1 x.2.1⟩:=by
 obtain ⟨c0,hc0⟩:=Option.isSome_iff_exists.1 hb0;refine ⟨⟨fn,c0,hf,hname,hc0⟩,fun w T x gh b xs vs0 vs r hg ha hnd hlt hT _ hr=> ?_⟩;have hg':vs0=[]:=hg;subst hg';obtain ⟨g,vs',rfl,hh,g2,vs2,rfl,_,h3⟩:=ha;have h3':vs2=[]:=h3;subst h3';obtain ⟨h1,h2⟩:=ZbE hr;simp only[Px.joinB,Xh,Xi] at h1;cases h2;simp only[Holds] at hh;obtain ⟨⟨A,cap,q1,q2,q3,q4,q5,q6⟩,_⟩:=hh;have hv:toV (.slice e .str) (cells (.slice e .str) xs.1 g)= .slice A xs.1.length cap:=by simp [toV,Ty.agg,cells,q1]
 have hv2:toV .str (cells .str xs.2.1 g2)= .string xs.2.1:=rfl;rw[hv,hv2]
 have fin:∀(e1:Ending) (w':World),e1= .returned (.string ⟨(Lib.join (xs.1.map (·.data.toList)) xs.2.1.data.toList).toArray⟩)→Below w.heap.size w w'→
   ∃v,e1= .returned v∧RetOk ⟨.none,[.slice e .str, .str], .str,1, .ro,fun _ x=>Px.strings_Join N x.1 x.2.1⟩ w T x gh b (⟨(Lib.join (xs.1.map (·.data.toList)) xs.2.1.data.toList).toArray⟩,()) v w':=fun e1 w' he hb=>
  ⟨_,he,Zb7 (g:= .leaf) hb rfl (fun _ _=>trivial) (fun e2 k hk=>(hT e2 k hk).1)⟩
 by_cases hx:xs.1=[]
 ·have hl:xs.1.length=0:=by rw[hx];rfl
  rw[hl];refine (h0 A cap xs.2.1 w).mono fun e w' ⟨he,hw⟩=> ?_
  refine fin e w' ?_ (hw▸Below.refl _ _);rw[he,hx];rfl
 ·obtain ⟨a,ha1,ha2⟩:=q5 hx
  have hs:=q3 hx a ha1;obtain ⟨bk,o,sp⟩:=a;simp only at hs;subst hs;rw[ha1];refine (h bk o cap xs.1 xs.2.1 w (fun j x hj=> ?_) (hT e bk ha2).1 h1.1 q2 h1.2).mono fun e w' ⟨he,hw⟩=>fin e w' he hw
  have hjl:j<xs.1.length:=(List.getElem?_eq_some_iff.1 hj).1;have:=(q6 _ ha1).elem (s:=1) rfl (fun i _=>rfl) j hjl 0 (.string x) (by simp [cells,List.getD_eq_getElem?_getD,hj]);by_cases hj0:j=0
  ·subst hj0;simpa [Addr.add] using this
  ·simpa [Addr.add,hj0] using this
namespace Px
def strconv_Atoi (N:Nat) (s:Xo):Option ((Int×Bool)×Unit):=chk (decide (s.size≤18))<| some (((Lib.atoi s.data.toList).getD 0,(Lib.atoi s.data.toList).isSome),())
end Px
theorem Znb {w:World} {T:TypeId→Nat→Prop} {xs:ADen [.str]} {vs:List Value} (h:ArgsOk w T [.str] xs vs):vs=[.string xs.1]:=by
 obtain ⟨g,vs',rfl,_,h3⟩:=h;have h3':vs'=[]:=h3;subst h3';rfl
theorem ZoN (gm ge:Nat) {e:TypeId} {N:Nat} {f:FuncId} {fn:Func} (hf:P.funcs[f]? =some fn) (hname:(fn.name== "runtime.NumGoroutine")=false) (hb0:fn.body.isSome=true) (hge:P.globalNamed "strconv.ErrSyntax"=some ge)
  (h:∀(s:Xo) (n:Int),s.size≤18→Lib.atoi s.data.toList=some n→∀w:World,Calls P f #[.string s] w fun e1 w'=>e1= .returned (.tuple #[.int .i64 n, .nilIface])∧∃t,w'=Lib.bytesWorld w e t)
  (h0:∀(s:Xo),s.size≤18→Lib.atoi s.data.toList=none→∀(ev:Value) (w:World),w.cell? ⟨ge,0,none⟩=some ev→(ev= .nilIface∨∃te pe,ev= .iface te pe)→
   Calls P f #[.string s] w fun e1 w'=>(∃te pe,e1= .returned (.tuple #[.int .i64 0, .iface te pe]))∧Below w.heap.size w w'):
  letI:=doorLaid P gm;Sat P f ⟨.none,[.str], .prod (.int .i64) .err,2, .ro,fun _ x=>Px.strconv_Atoi N x.1⟩:=by
 letI:=doorLaid P gm
 obtain ⟨c0,hc0⟩:=Option.isSome_iff_exists.1 hb0;refine ⟨⟨fn,c0,hf,hname,hc0⟩,fun w T x gh b xs vs0 vs r hg ha hnd hlt hT hD hr=> ?_⟩;have hg':vs0=[]:=hg;subst hg';rw[Znb ha];obtain ⟨h1,h2⟩:=ZbE hr;have hs:=of_decide_eq_true h1;cases h2;obtain ⟨_,gt,_,⟨_,hE⟩,_⟩:=hD;obtain ⟨_,ev,hc,hv⟩:=hE ge hge;cases ho:Lib.atoi xs.1.data.toList with
 | some n=>
  refine (h xs.1 n hs ho w).mono fun e1 w' ⟨he,t,hw⟩=>⟨_,he, ?_⟩
  subst hw;exact Zb7 (g:= .pr .leaf (.hd .nilIface)) (Lib.bytesWorld_below _ _ _) rfl (fun _ _=>by simp [Holds,Gh.r,Gh.head]) (fun e k hk=>(hT e k hk).1)
 | none=>
  refine (h0 xs.1 hs ho ev w hc hv).mono fun e1 w' ⟨⟨te,pe,he⟩,hw⟩=>⟨_,he, ?_⟩
  exact Zb7 (g:= .pr .leaf (.hd (.iface te pe))) hw rfl (fun _ _=>by simp [Holds,Gh.r,Gh.head]) (fun e k hk=>(hT e k hk).1)
namespace Px
def strings_Split (N:Nat) (s sep:Xo):Option (List Xo×Unit):=chk (decide (s.size<4294967281) && decide (1≤sep.size))<| some (Lib.splitB sep 0 (Lib.countB s sep) s,())
end Px
theorem ZjK (xs:List Xo):∀n,n≤xs.length→catN (fun i=>cells .str (xs.getD i (Ty.dflt .str)) .leaf) n=(xs.take n).map Value.string
 | 0,_=>rfl
 | n+1,h=>by
  simp only[catN];rw[ZjK xs n (by omega),List.take_add_one,List.getElem?_eq_getElem (by omega),List.map_append];simp [cells,List.getD_eq_getElem?_getD,List.getElem?_eq_getElem (show n<xs.length by omega)]
theorem Znc (gm:Nat) {e:TypeId} {N:Nat} {f:FuncId} {fn:Func} (hf:P.funcs[f]? =some fn) (hname:(fn.name== "runtime.NumGoroutine")=false) (hb0:fn.body.isSome=true)
  (h:∀(s sep:Xo) (m:Int) (w:World),s.size<4294967281→w.cell? ⟨gm,0,none⟩=some (.int .i64 m)→1≤sep.size→
   Calls P f #[.string s, .string sep] w fun e1 w'=>e1= .returned (.slice (some ⟨w.heap.size,0,none⟩) (Lib.countB s sep+1) (Lib.countB s sep+1))∧w'=w.alloc (.cells ((Lib.splitB sep 0 (Lib.countB s sep) s).map Value.string).toArray e)):
  letI:=doorLaid P gm;Sat P f ⟨.none,[.str, .str], .slice e .str,1, .own .ro,fun _ x=>Px.strings_Split N x.1 x.2.1⟩:=by
 letI:=doorLaid P gm
 obtain ⟨c0,hc0⟩:=Option.isSome_iff_exists.1 hb0;refine ⟨⟨fn,c0,hf,hname,hc0⟩,fun w T x gh b xs vs0 vs r hg ha hnd hlt hT hD hr=> ?_⟩;have hg':vs0=[]:=hg;subst hg';rw[ZeC ha];obtain ⟨h1,h2⟩:=ZbE hr;simp only[Xh,Xi] at h1;cases h2;obtain ⟨⟨_,m,hm⟩,_⟩:=hD;have hlen:(Lib.splitB xs.2.1 0 (Lib.countB xs.1 xs.2.1) xs.1).length=Lib.countB xs.1 xs.2.1+1:=Lib.splitB_all xs.2.1 h1.2 0 _ xs.1 rfl;have hle:=Lib.countB_le xs.2.1 h1.2 xs.1.size xs.1 (Xl _);refine (h xs.1 xs.2.1 m w h1.1 hm h1.2).mono fun e1 w' ⟨he,hw⟩=>⟨_,he, ?_⟩
 subst hw;generalize hL:Lib.splitB xs.2.1 0 (Lib.countB xs.1 xs.2.1) xs.1=L at hlen ⊢;have hsz:(w.alloc (.cells (L.map Value.string).toArray e)).heap.size=w.heap.size+1:=by simp
 have hfoot:foot (.slice e .str) (.own .ro) L (.row (.slice (some ⟨w.heap.size,0,none⟩) (Lib.countB xs.1 xs.2.1+1) (Lib.countB xs.1 xs.2.1+1)) fun _=> .leaf)=[w.heap.size]:=by
  simp only[foot,Gh.head,Gh.at];rw[Zbj (fun _ _=>rfl)];simp [Value.ownBlock]
 have hb:Below w.heap.size w (w.alloc (.cells (L.map Value.string).toArray e)):=(Below.refl _ _).alloc (Xl _) _;refine ⟨.row (.slice (some ⟨w.heap.size,0,none⟩) (Lib.countB xs.1 xs.2.1+1) (Lib.countB xs.1 xs.2.1+1)) fun _=> .leaf, .leaf,T,⟨hb.os,hb.tape,hb.output,hb.size,fun k hk _=>hb.block k hk⟩, ?_, ?_,trivial, ?_, ?_, ?_⟩
 ·simp [toV,Ty.agg,cells,Gh.head]
 ·simp only[Holds,Gh.head,Gh.at]
  refine ⟨⟨ZR (fun _ _=>rfl), .inr ⟨w.heap.size,L.length,(L.map Value.string).toArray,by rw[hlen],⟨(0,0), .inl rfl,heap_alloc_new w _⟩,Xl _, ?_,by simp [Ty.sz], ?_⟩⟩,fun _ _=>trivial⟩
  ·rw[hlen];have:(4294967281:Nat)≤maxLen:=by decide
   omega
  ·rw[ZjK L L.length (Xl _)];simp [Ty.sz,List.take_of_length_le]
 ·show (foot (.slice e .str) (.own .ro) L (.row (.slice (some ⟨w.heap.size,0,none⟩) (Lib.countB xs.1 xs.2.1+1) (Lib.countB xs.1 xs.2.1+1)) fun _=> .leaf)++[]).Nodup
  rw[List.append_nil,hfoot];simp
 ·intro k hk
  have hk':k∈foot (.slice e .str) (.own .ro) L (.row (.slice (some ⟨w.heap.size,0,none⟩) (Lib.countB xs.1 xs.2.1+1) (Lib.countB xs.1 xs.2.1+1)) fun _=> .leaf):=by simpa [backFeet] using hk
  rw[hfoot] at hk';obtain rfl:k=w.heap.size:=by simpa using hk'
  exact ⟨by rw[hsz];omega, .inl (Xl _)⟩
 ·intro e2 k hk
  have hlt:=(hT e2 k hk).1;refine ⟨.inl hk,by rw[hsz];omega,fun hin=> ?_⟩
  have hk':k∈foot (.slice e .str) (.own .ro) L (.row (.slice (some ⟨w.heap.size,0,none⟩) (Lib.countB xs.1 xs.2.1+1) (Lib.countB xs.1 xs.2.1+1)) fun _=> .leaf):=by simpa [backFeet] using hin
  rw[hfoot] at hk';obtain rfl:k=w.heap.size:=by simpa using hk'
  omega
end
end Go.Rx
namespace Go.Rx
noncomputable section
open Go.RowKit
variable {P:Program}
namespace Px
def lexC:List Int→List Int→Int
 | [],[]=>0
 | [],_::_=> -1
 | _::_,[]=>1
 | a::x,b::y=>if a<b then -1 else if b<a then 1 else lexC x y
def setC (a b:List Int):Int:=if a.length=b.length then lexC a b else (a.length:Int) - (b.length:Int)
def leC (x y:List Int):Bool:= !decide (setC y x<0)
def sortOk (xs:List (List Int)):Bool:=decide (xs.length≤1000000) && (xs.all (fun r=>decide (r.length≤1000000)) && decide xs.Nodup)
def slices_SortFunc_int_int__impl_sets_1 (N:Nat) (xs:List (List Int)):Option (Bool×List (List Int)):=chk (sortOk xs)<| some (false,xs.mergeSort leC)
theorem ZjL:∀x,lexC x x=0
 | []=>rfl
 | a::x=>by simp only[lexC];rw[if_neg (by omega),if_neg (by omega)];exact ZjL x
theorem Zlo:∀x y,lexC y x= -lexC x y
 | [],[] | [],_::_ | _::_,[]=>rfl
 | a::x,b::y=>by
  simp only[lexC];by_cases h1:a<b
  ·rw[if_neg (by omega),if_pos h1,if_pos h1];rfl
  ·by_cases h2:b<a
   ·rw[if_pos h2,if_neg h1,if_pos h2]
   ·rw[if_neg h2,if_neg h1,if_neg h1,if_neg h2];exact Zlo x y
theorem ZjM:∀x y,lexC x y=0→x=y
 | [],[],_=>rfl
 | [],_::_,h | _::_,[],h=>by simp [lexC] at h
 | a::x,b::y,h=>by
  simp only[lexC] at h;by_cases h1:a<b
  ·rw[if_pos h1] at h;omega
  ·by_cases h2:b<a
   ·rw[if_neg h1,if_pos h2] at h;omega
   ·rw[if_neg h1,if_neg h2] at h
    rw[show a=b by omega,ZjM x y h]
theorem ZhZ:∀x y z,lexC x y<0→lexC y z<0→lexC x z<0
 | [],[],_,h,_=>by simp [lexC] at h
 | [],_::_,[],_,h=>by simp [lexC] at h
 | [],_::_,_::_,_,_=>by simp [lexC]
 | _::_,[],_,h,_=>by simp [lexC] at h
 | _::_,_::_,[],_,h=>by simp [lexC] at h
 | a::x,b::y,c::z,h,k=>by
  simp only[lexC] at h k ⊢;by_cases h1:a<b
  ·by_cases k1:b<c
   ·rw[if_pos (by omega)];omega
   ·by_cases k2:c<b
    ·rw[if_neg k1,if_pos k2] at k;omega
    ·rw[if_pos (by omega)];omega
  ·by_cases h2:b<a
   ·rw[if_neg h1,if_pos h2] at h;omega
   ·rw[if_neg h1,if_neg h2] at h
    by_cases k1:b<c
    ·rw[if_pos (by omega)];omega
    ·by_cases k2:c<b
     ·rw[if_neg k1,if_pos k2] at k;omega
     ·rw[if_neg k1,if_neg k2] at k
      rw[if_neg (by omega),if_neg (by omega)];exact ZhZ x y z h k
theorem ZjN (x:List Int):setC x x=0:=by simp only[setC,if_true];exact ZjL x
theorem ZcO (x y:List Int):setC y x= -setC x y:=by
 simp only[setC];by_cases h:x.length=y.length
 ·rw[if_pos h.symm,if_pos h];exact Zlo x y
 ·rw[if_neg (fun e=>h e.symm),if_neg h];omega
theorem ZeE {x y:List Int} (h:setC x y=0):x=y:=by
 simp only[setC] at h;by_cases q:x.length=y.length
 ·rw[if_pos q] at h;exact ZjM x y h
 ·rw[if_neg q] at h;omega
theorem Zh0 {x y z:List Int} (h:setC x y<0) (k:setC y z<0):setC x z<0:=by
 simp only[setC] at h k ⊢;by_cases q1:x.length=y.length
 ·by_cases q2:y.length=z.length
  ·rw[if_pos q1] at h;rw[if_pos q2] at k;rw[if_pos (q1.trans q2)];exact ZhZ x y z h k
  ·rw[if_neg q2] at k;rw[if_neg (by omega)];omega
 ·rw[if_neg q1] at h
  by_cases q2:y.length=z.length
  ·rw[if_neg (by omega)];omega
  ·rw[if_neg q2] at k;rw[if_neg (by omega)];omega
theorem Zd9 {x y z:List Int} (h:¬setC x y<0) (k:¬setC y z<0):¬setC x z<0:=by
 intro hz;have h1:=ZcO x y;have k1:=ZcO y z;have z1:=ZcO x z;by_cases e1:setC x y=0
 ·rw[ZeE e1] at hz;exact k hz
 ·by_cases e2:setC y z=0
  ·rw[←ZeE e2] at hz;exact h hz
  ·have:=Zh0 (x:=z) (y:=y) (z:=x) (by omega) (by omega)
   omega
end Px
open Go.Proofs in
open Go.Sort in
theorem ZpX {α:Type} [Inhabited α] (enc:α→Value) {w:World} {g n:Nat} {os:Array Obj} {cur:Array Value} {e:TypeId} {fr:Nat×Nat} (d:Array α) (hb:w.heap[g]? =some (.cells cur e fr)):
  (Go.Proofs.sortWorld enc w g 0 n d os).heap[g]? =some (.cells (putCells enc 0 d cur) e fr):=by
 have hg:g<w.heap.size:=(Array.getElem?_eq_some_iff.1 hb).1;unfold Go.Proofs.sortWorld;rw[heap_grow_old _ _ (by simpa using hg)];simp [putRow,mapBlock,Sort.ahead,Array.getElem?_modify,hb,onCells]
open Go.Sort in
theorem Zfl {α:Type} [Inhabited α] (enc:α→Value) {w:World} {g n k:Nat} {os:Array Obj} (d:Array α) (hk:k<w.heap.size) (hne:g≠k):(Go.Proofs.sortWorld enc w g 0 n d os).heap[k]? =w.heap[k]? :=by
 unfold Go.Proofs.sortWorld;rw[heap_grow_old _ _ (by simpa using hk)];simp [putRow,mapBlock,Sort.ahead,Array.getElem?_modify,hne]
open Go.Sort in
theorem ZpY {α:Type} [Inhabited α] (enc:α→Value) (w:World) (g n:Nat) (os:Array Obj) (d:Array α):w.heap.size≤(Go.Proofs.sortWorld enc w g 0 n d os).heap.size:=by
 unfold Go.Proofs.sortWorld grow;simp
def RowAt (w:World) (v:Value) (xs:List Int):Prop:=
 ∃A cap,v= .slice A xs.length cap∧(xs≠[]→∃b o,A=some ⟨b,o,none⟩)∧∀b o,A=some ⟨b,o,none⟩→∀j,j<xs.length→w.cell? ⟨b,o+j,none⟩=some (.int .i64 (xs.getD j 0))
theorem ZoO {w:World} {T:TypeId→Nat→Prop} {e:TypeId} {xs:List Int} {g:Gh} (h:Holds w T (.slice e (.int .i64)) .ro xs g):RowAt w g.head xs:=by
 simp only[Holds] at h;obtain ⟨⟨A,cap,q1,q2,q3,q4,q5,q6⟩,_⟩:=h;refine ⟨A,cap,q1,fun hx=> ?_,fun b o hA j hj=> ?_⟩
 ·obtain ⟨a,ha,_⟩:=q5 hx
  have:=q3 hx a ha;obtain ⟨b,o,s⟩:=a;simp only at this;subst this;exact ⟨b,o,ha⟩
 ·have:=(q6 _ hA).elem (s:=1) rfl (fun i _=>rfl) j hj 0 (.int .i64 (xs.getD j 0)) (by simp [cells,Ty.dflt])
  by_cases hj0:j=0
  ·subst hj0;simpa [Addr.add] using this
  ·simpa [Addr.add,hj0] using this
theorem Zh1 {w w':World} {v:Value} {xs:List Int} (h:RowAt w v xs) (hk:∀A n cap b o,v= .slice A n cap→A=some ⟨b,o,none⟩→xs≠[]→w'.heap[b]? =w.heap[b]?):RowAt w' v xs:=by
 obtain ⟨A,cap,h1,h2,h3⟩:=h;refine ⟨A,cap,h1,h2,fun b o hA j hj=> ?_⟩;rw[World.cell?_of_block (w:=w) (hk A _ cap b o h1 hA (by rintro rfl;simp at hj))]
 exact h3 b o hA j hj
theorem ZiE {f:Nat→Value}:∀n,catN (fun i=>[f i]) n=(List.range n).map f
 | 0=>rfl
 | n+1=>by simp only[catN];rw[ZiE n,List.range_succ,List.map_append];rfl
open Go.Proofs in
theorem ZjO [Laid P] {e2 e:TypeId} {N:Nat} {f g:FuncId} {fn:Func} (hf:P.funcs[f]? =some fn) (hname:(fn.name== "runtime.NumGoroutine")=false) (hb0:fn.body.isSome=true)
  (hnone:∀(p:Option Addr) (cap:Nat) (fv:Value) (w:World),Calls P f #[.slice p 0 cap,fv] w fun e1 w'=>e1= .returned (.tuple #[])∧w'=w)
  (hsort:∀(k:Nat) (enc:Fin (k+1)→Value),OneCell enc→∀cf:Fin (k+1)→Fin (k+1)→Int,Go.Sort.SWO (ltOf cf)→∀(blk cap:Nat) (d:Array (Fin (k+1))) (w:World),CmpLays1 P g #[] enc cf blk 0 d.size w→Go.Sort.Holds enc w blk 0 d→blk<w.heap.size→d.size<4611686018427387904→(∀x y,ltOf cf x y=false→ltOf cf y x=false→x=y)→
   Calls P f #[.slice (some ⟨blk,0,none⟩) d.size cap, .func (.func g) #[] #[]] w fun e1 w'=>e1= .returned (.tuple #[])∧∃n os,w'=Go.Proofs.sortWorld enc w blk 0 n (d.toList.mergeSort fun x y=> !(ltOf cf) y x).toArray os)
  (hcl:∀(va vb:Value) (xs ys:List Int) (w:World),RowAt w va xs→RowAt w vb ys→xs.length≤1000000→ys.length≤1000000→Calls P g #[va,vb] w fun e1 w'=>e1= .returned (.int .i64 (Px.setC xs ys))∧w'=w):
  SatT P f (some g) ⟨.«mut» (.slice e2 (.slice e (.int .i64))) (.own .ro) (.own .ro),[], .bool,0, .ro,fun xs _=>Px.slices_SortFunc_int_int__impl_sets_1 N xs⟩:=by
 obtain ⟨c0,hc0⟩:=Option.isSome_iff_exists.1 hb0;refine ⟨⟨fn,c0,hf,hname,hc0⟩,fun w T x gh b xs vs0 vs r hg ha hnd hlt hT _ hr=> ?_⟩;obtain ⟨hh,hvs⟩:=hg;subst hvs;have ha':vs=[]:=ha;subst ha';obtain ⟨h1,h2⟩:=ZbE hr;cases h2;simp only[Px.sortOk,Xh,Xi,List.all_eq_true] at h1;obtain ⟨hl1,hl2,hnodup⟩:=h1;have hv:toV (.slice e2 (.slice e (.int .i64))) (cells (.slice e2 (.slice e (.int .i64))) x gh)=gh.head:=rfl;have hh0:=hh;unfold Holds at hh;obtain ⟨⟨hlen,hown⟩,hel0⟩:=hh;have hel:∀i,i<x.length→Holds w T (.slice e (.int .i64)) .ro (x.getD i []) (gh.at i):=hel0
 by_cases hx:x=[]
 ·subst hx
  have hhead:∃p cap,gh.head= .slice p 0 cap:=by
   rcases hown with ⟨h,_⟩ | ⟨bk,cap,cur,h,_⟩
   ·exact ⟨_,_,h⟩
   ·exact ⟨_,_,h⟩
  obtain ⟨p,cap,hp⟩:=hhead;show Calls P f #[toV (.slice e2 (.slice e (.int .i64))) (cells (.slice e2 (.slice e (.int .i64))) [] gh), .func (.func g) #[] #[]] w _;rw[hv,hp];refine (hnone p cap _ w).mono fun e1 w' ⟨he,hw⟩=>⟨_,he, ?_⟩
  subst hw;refine ⟨.leaf,gh,T,⟨rfl,rfl,rfl,Xl _,fun _ _ _=>rfl⟩,rfl,trivial,⟨by rw[List.mergeSort_nil];exact hh0,by rw[List.mergeSort_nil]⟩, ?_, ?_, ?_⟩
  ·simp only[List.mergeSort_nil];exact hnd
  ·intro k hk
   simp only[List.mergeSort_nil] at hk;exact ⟨hlt k hk, .inr hk⟩
  ·intro e1 k hk
   have:=hT e1 k hk;refine ⟨.inl hk,this.1, ?_⟩;simp only[List.mergeSort_nil];exact this.2
 ·rcases hown with ⟨_,h0⟩ | ⟨bk,cap,cur,hp,⟨fr,hfr,hcell⟩,hnc,hcap,hcs,htake⟩
  ·exact absurd (List.eq_nil_of_length_eq_zero h0) hx
  ·have hfr0:fr=(0,0):=by
    rcases hfr with h | ⟨h,_⟩
    ·exact h
    ·cases h
   subst hfr0;obtain ⟨k,hk⟩:∃k,x.length=k+1:=⟨x.length - 1,by have:=List.length_pos_iff.2 hx;omega⟩
   have hbk:bk<w.heap.size:=(Array.getElem?_eq_some_iff.1 hcell).1;have hfoot:givFeet (.«mut» (.slice e2 (.slice e (.int .i64))) (.own .ro) (.own .ro)) x gh b=[bk]:=by
    show foot (.slice e2 (.slice e (.int .i64))) (.own .ro) x gh=[bk];simp only[foot,hp,Value.ownBlock,Option.toList];rw[Zbj (fun _ _=>rfl)];rfl
   rw[hfoot] at hlt hT
   let enc:Fin (k+1)→Value:=fun i=>(gh.at i).head
   let fx:Fin (k+1)→List Int:=fun i=>x.getD i []
   let cf:Fin (k+1)→Fin (k+1)→Int:=fun i j=>Px.setC (fx i) (fx j)
   have hrow:∀i:Fin (k+1),RowAt w (enc i) (fx i)∧(fx i).length≤1000000:=fun i=>by
    have hi:(i:Nat)<x.length:=by rw[hk];exact i.2
    refine ⟨ZoO (hel i hi), ?_⟩;have:=hl2 (x.getD i []) (by rw[List.getD_eq_getElem?_getD,List.getElem?_eq_getElem hi];simp)
    exact this
   have hTr:∀i:Fin (k+1),∀A n cp b o,enc i= .slice A n cp→A=some ⟨b,o,none⟩→fx i≠[]→b<w.heap.size∧b≠bk:=fun i A n cp b o h1 h2 h3=>by
    have hi:(i:Nat)<x.length:=by rw[hk];exact i.2
    have:=hel i hi;unfold Holds at this;obtain ⟨⟨A',cap',q1,q2,q3,q4,q5,q6⟩,_⟩:=this;obtain ⟨a,ha1,ha2⟩:=q5 h3;have e1:A'=A:=by
     have:Value.slice A n cp=Value.slice A' (x.getD i (Ty.dflt (.slice e (.int .i64)))).length cap':=h1.symm.trans q1;injection this with h _ _;exact h.symm
    subst e1;rw[h2] at ha1;cases ha1;have:=hT e _ ha2
    simpa using this
   have hltc:∀i j,ltOf cf i j=decide (Px.setC (fx i) (fx j)<0):=fun _ _=>rfl
   have hinj:∀i j,fx i=fx j→i=j:=fun i j h=>by
    have hi:(i:Nat)<x.length:=by rw[hk];exact i.2
    have hj:(j:Nat)<x.length:=by rw[hk];exact j.2
    simp only[fx,List.getD_eq_getElem?_getD,List.getElem?_eq_getElem hi,List.getElem?_eq_getElem hj,Option.getD_some] at h;have hne:=List.pairwise_iff_getElem.1 hnodup;rcases Nat.lt_trichotomy i.1 j.1 with q | q | q
    ·exact absurd h (hne i.1 j.1 hi hj q)
    ·exact Fin.ext q
    ·exact absurd h.symm (hne j.1 i.1 hj hi q)
   have hfin:(List.finRange (k+1)).map fx=x:=by
    apply List.ext_getElem (by simp [hk]);intro i h1 h2;simp [fx,List.getD_eq_getElem?_getD,List.getElem?_eq_getElem h2]
   have hcat:cur.toList.take (k+1)=(List.range (k+1)).map fun i=>(gh.at i).head:=by
    have:catN (fun i=>cells (.slice e (.int .i64)) (x.getD i (Ty.dflt (.slice e (.int .i64)))) (gh.at i)) x.length=(List.range x.length).map fun i=>(gh.at i).head:=ZiE _
    rw[←hk,←this,←htake];simp [Ty.sz]
   have hH:Go.Sort.Holds enc w bk 0 (List.finRange (k+1)).toArray:=fun j hj=>by
    have hj':j<k+1:=by simpa using hj
    have h1:(cur.toList.take (k+1))[j]? =((List.range (k+1)).map fun i=>(gh.at i).head)[j]? :=by rw[hcat]
    rw[List.getElem?_take_of_lt hj'] at h1;refine ⟨?_,by simp [World.frozen?,hcell]⟩;simp only[World.cell?,hcell,Nat.zero_add];simp only[Option.isSome_none,Bool.false_eq_true,if_false];rw[←Array.getElem?_toList,h1];simp [hj',enc]
   have hcmp:CmpLays1 P g #[] enc cf bk 0 (List.finRange (k+1)).toArray.size w:=fun m os dk hdk i j=>by
    refine (hcl (enc i) (enc j) (fx i) (fx j) _ (Zh1 (hrow i).1 fun A n cp b o h1 h2 h3=> ?_) (Zh1 (hrow j).1 fun A n cp b o h1 h2 h3=> ?_) (hrow i).2 (hrow j).2).mono fun e1 w' ⟨he,hw⟩=>⟨he,0, #[],by rw[hw];rfl⟩
    ·have:=hTr i A n cp b o h1 h2 h3
     exact Zfl enc dk this.1 (fun h=>this.2 h.symm)
    ·have:=hTr j A n cp b o h1 h2 h3
     exact Zfl enc dk this.1 (fun h=>this.2 h.symm)
   have hS:Go.Sort.SWO (ltOf cf):=⟨fun i=>by rw[hltc,Px.ZjN];rfl,fun i j l h1 h2=>by
     rw[hltc] at h1 h2 ⊢;simp only[Xi] at h1 h2 ⊢;exact Px.Zh0 h1 h2,fun i j l h1 h2=>by
     rw[hltc] at h1 h2 ⊢;simp only[decide_eq_false_iff_not] at h1 h2 ⊢;exact Px.Zd9 h1 h2⟩
   have hT2:∀i j,ltOf cf i j=false→ltOf cf j i=false→i=j:=fun i j h1 h2=>by
    rw[hltc] at h1 h2;simp only[decide_eq_false_iff_not] at h1 h2;have:=Px.ZcO (fx i) (fx j);exact hinj i j (Px.ZeE (by omega))
   show Calls P f #[gh.head, .func (.func g) #[] #[]] w _;have hsz:(List.finRange (k+1)).toArray.size=x.length:=by simp [hk]
   rw[hp,←hsz];have hO:OneCell enc:=fun i=>by
    obtain ⟨A,cp,hA,_⟩:=(hrow i).1;show (enc i).oneCell'=true;rw[hA];rfl
   refine (hsort k enc hO cf hS bk cap _ w hcmp hH hbk (by rw[hsz];omega) hT2).mono fun e1 w' ⟨he,m,os,hw⟩=>⟨_,he, ?_⟩
   have hmap:x.mergeSort Px.leC=((List.finRange (k+1)).mergeSort fun i j=> !(ltOf cf) j i).map fx:=by
    conv=>lhs;rw[←hfin]
    exact (List.map_mergeSort (f:=fx) (r:=fun i j=> !(ltOf cf) j i) (s:=Px.leC) (fun i _ j _=>rfl)).symm
   rw[List.toList_toArray] at hw;generalize hL:((List.finRange (k+1)).mergeSort fun i j=> !(ltOf cf) j i)=L at hw hmap
   have hLl:L.length=k+1:=by rw[←hL,List.length_mergeSort];simp
   have hxl:(x.mergeSort Px.leC).length=k+1:=by rw[List.length_mergeSort,hk]
   let gh':Gh:= .row gh.head fun i=>gh.at (L.getD i 0:Fin (k+1))
   have hget:∀i,i<k+1→(x.mergeSort Px.leC).getD i []=x.getD ((L.getD i 0:Fin (k+1)):Nat) []:=fun i hi=>by
    rw[hmap];simp [List.getD_eq_getElem?_getD,List.getElem?_map,List.getElem?_eq_getElem (show i<L.length by omega),fx]
   have hfr:Frame w [bk] w':=⟨by rw[hw];rfl,by rw[hw];rfl,by rw[hw];rfl,by rw[hw];exact ZpY _ _ _ _ _ _,fun j hj hn=>by rw[hw];exact Zfl enc _ hj (by simpa using fun h:bk=j=>hn (by simp [h]))⟩
   have hkept:Kept w T w' T:=fun e1 j hj=>⟨hfr.block j (hT e1 j hj).1 (hT e1 j hj).2,hj⟩
   have hcell':w'.heap[bk]? =some (.cells (Go.Sort.putCells enc 0 L.toArray cur) e2 (0,0)):=by rw[hw];exact ZpX enc L.toArray hcell
   have hnew:Holds w' T (.slice e2 (.slice e (.int .i64))) (.own .ro) (x.mergeSort Px.leC) gh':=by
    unfold Holds;refine ⟨⟨ZR (fun _ _=>rfl), .inr ⟨bk,cap,_,by show gh.head=_;rw[hp,List.length_mergeSort],⟨(0,0), .inl rfl,hcell'⟩,by rw[List.length_mergeSort];exact hnc,hcap,by simpa [Go.Sort.putCells] using hcs, ?_⟩⟩,fun i hi=> ?_⟩
    ·have e1:catN (fun i=>cells (.slice e (.int .i64)) ((x.mergeSort Px.leC).getD i (Ty.dflt (.slice e (.int .i64)))) (gh'.at i)) (x.mergeSort Px.leC).length=(List.range (x.mergeSort Px.leC).length).map fun i=>(gh'.at i).head:=ZiE _
     rw[e1,hxl];have hcs':k+1≤cur.size:=by rw[hcs];simp only[Ty.sz];omega
     apply List.ext_getElem?;intro j;by_cases hj:j<k+1
     ·rw[List.getElem?_take_of_lt (by simp only[Ty.sz];omega),Array.getElem?_toList]
      simp [Go.Sort.putCells,hj,hLl,show j<cur.size by omega,gh',Gh.at,enc,List.getD_eq_getElem?_getD,List.getElem?_eq_getElem (show j<L.length by omega)]
     ·rw[List.getElem?_take_eq_none (by simp only[Ty.sz];omega),List.getElem?_eq_none (by simp;omega)]
    ·rw[hxl] at hi
     have hlt2:((L.getD i 0:Fin (k+1)):Nat)<x.length:=by rw[hk];exact (L.getD i 0).2
     have:=(hel _ hlt2).kept hkept;show Holds w' T (.slice e (.int .i64)) .ro ((x.mergeSort Px.leC).getD i []) (gh'.at i);rw[hget i hi];exact this
   have hback:backFeet (.«mut» (.slice e2 (.slice e (.int .i64))) (.own .ro) (.own .ro)) (x.mergeSort Px.leC) gh' b=[bk]:=by
    show foot (.slice e2 (.slice e (.int .i64))) (.own .ro) (x.mergeSort Px.leC) gh'=[bk];simp only[foot,gh',Gh.head,hp,Value.ownBlock,Option.toList];have hp':gh.head= .slice (some ⟨bk,0,none⟩) x.length cap:=hp;rw[Zbj (fun _ _=>rfl)];cases gh<;>simp_all [Gh.head,Value.ownBlock]
   refine ⟨.leaf,gh',T,by rw[hfoot];exact hfr,rfl,trivial,⟨hnew,rfl⟩, ?_, ?_, ?_⟩
   ·show (foot .bool .ro false .leaf++backFeet _ _ gh' b).Nodup
    rw[hback];simp [foot]
   ·intro j hj
    have hj':j∈foot .bool .ro false .leaf++backFeet (.«mut» (.slice e2 (.slice e (.int .i64))) (.own .ro) (.own .ro)) (x.mergeSort Px.leC) gh' b:=hj;rw[hback] at hj';obtain rfl:j=bk:=by simpa [foot] using hj'
    exact ⟨Nat.lt_of_lt_of_le hbk hfr.size, .inr (by rw[hfoot];simp)⟩
   ·intro e1 j hj
    have:=hT e1 j hj;refine ⟨.inl hj,Nat.lt_of_lt_of_le this.1 hfr.size, ?_⟩;show j∉foot .bool .ro false .leaf++backFeet (.«mut» (.slice e2 (.slice e (.int .i64))) (.own .ro) (.own .ro)) (x.mergeSort Px.leC) gh' b;rw[hback];simpa [foot] using this.2
end
end Go.Rx

