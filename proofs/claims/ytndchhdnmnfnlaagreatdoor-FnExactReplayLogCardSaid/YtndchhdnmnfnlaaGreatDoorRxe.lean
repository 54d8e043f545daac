/- This text proves laws about a reflected evaluator of Go code, part 5 of 5; no condition beyond those each theorem states. -/
import Derived.Deep.LoopGhost
import Derived.Handed
import Derived.Lib.Atoi
import Derived.Lib.AtoiErrMem
import Derived.Lib.Join
import Derived.Lib.SlicesS
import Derived.Lib.SplitLaws
import Derived.Lib.Walk
import Derived.Shelf.SlSortCmp.Kit1
import Derived.Sort.LotA
import Derived.WalkKit
import Derived.Test.YtndchhdnmnfnlaaGreatDoorRxd
set_option linter.unusedVariables false
set_option linter.unusedSimpArgs false
namespace Go.Rx
noncomputable section
open Go.RowKit
section
variable {H:Type} {enc:TypeId×Value→H}
theorem Zji {a:Assume} {C:Checked} {os:Os} {f:FuncId} {fn:Func} {s:ChangeSpec} {conds:List PathCond} {apart fresh handsOn again:Bool} {X:World→Array Value→Prop}
  (hX:∀(w w':World) (args:Array Value),w.heap=w'.heap→X w args→X w' args)
  (own:ownKnob C.prog.godebug=none) (started:os.Started) (noInit:C.prog.inits.idxOf? f=none) (hfn:C.prog.funcs[f]? =some fn)
  (witness:∃(w:World) (tape:Tape) (i:Input),w.os=os∧(w.forCall tape i).Shaped C.prog∧i.vars=[]∧Input.okWide C.prog (w.forCall tape i) .any w.heap.size f i∧
   ((s.pre enc C.prog fn conds apart (w.forCall tape i).memory i.args∧X (w.forCall tape i).memory i.args)∧sizedMet enc C.prog fn (OpenSpec.ofChange s) apart (w.forCall tape i).memory i.args)∧a.holds C.prog (lone (Frame.enter C.prog f i.args .normal) [] (w.forCall tape i)))
  (contract:∀(W:World) (base:Nat) (args:Array Value) (ds gs:List (DataW H)) (before:List MemPlace),
   (∀(j:Nat) t v,fn.params[j]? =some t→args[j]? =some v→Value.okWide C.prog W .any base t v)→
   DataW.Whole enc C.prog fn.params.toList s.vars apart W args.toList ds gs before→X W args→W.ShapedOpen C.prog→
   Calls C.prog f args W fun e W'=>∃v,e= .returned v∧s.post enc C.prog fn apart fresh handsOn again W args v W'):
  ReturnsInHanded a C os f .any (fun w args=>(s.pre enc C.prog fn conds apart w args∧X w args)∧sizedMet enc C.prog fn (OpenSpec.ofChange s) apart w args) (s.post enc C.prog fn apart fresh handsOn again):=by
 refine returnsInHanded_of_calls own started noInit witness ?_
 intro w tape i _ hsh _ hok hpre hholds
 obtain ⟨_,_,_,fn',hfn',_,_,_,_,hval⟩:=hok
 have e:fn'=fn:=Option.some.inj (hfn'.symm.trans hfn)
 subst e
 obtain ⟨⟨⟨ds,gs,before,hw,hc⟩,hx⟩,hz⟩:=hpre
 have hw':=DataW.Whole.of_heap (w':=w.forCall tape i) (by rfl) hw
 refine (contract (w.forCall tape i) w.heap.size i.args ds gs before hval hw' (hX _ _ _ (by rfl) hx) hsh).mono fun e W' ⟨v,he,hp⟩=> ?_
 subst he
 exact ChangeSpec.post_blind hp
end
theorem Zes {w:World} {a:Addr} {v:Value} (h:w.cell? a=some v):a.block<w.heap.size:=by
 rcases Nat.lt_or_ge a.block w.heap.size with h1 | h1
 ·exact h1
 ·unfold World.cell? at h
  rw[Array.getElem?_eq_none h1] at h
  cases h
theorem Zjj {P:Program} {w:World} {name:String} {k:IntKind} {zs:List Int} {g:Nat} (hg:P.globalNamed name=some g) (h:Lib.TabIs P w name k zs):g<w.heap.size:=by
 rcases Nat.lt_or_ge g w.heap.size with h1 | h1
 ·exact h1
 ·unfold Lib.TabIs World.var? at h
  rw[hg] at h
  simp only[Option.bind_some] at h
  rw[Array.getElem?_eq_none h1] at h
  cases h
theorem ZlI {P:Program} {gm gt:Nat} {W:World} (hm:∃m,W.cell? ⟨gm,0,none⟩=some (.int .i64 m)) (hg:P.globalNamed "internal/strconv.uint64pow10"=some gt) (ht:Lib.TabIs P W "internal/strconv.uint64pow10" .u64 Lib.pow10Tab)
  (he:∀ge,P.globalNamed "strconv.ErrSyntax"=some ge→∃ev,W.cell? ⟨ge,0,none⟩=some ev∧(ev= .nilIface∨∃te pe,ev= .iface te pe)):
  doorD P gm W (fun _ k=>k<W.heap.size):=by
 obtain ⟨m,hm⟩:=hm
 refine ⟨⟨⟨0,Zes hm⟩,m,hm⟩,gt,hg,⟨⟨0,Zjj hg ht⟩,fun ge hg2=> ?_⟩,ht⟩
 obtain ⟨ev,hc,hv⟩:=he ge hg2
 exact ⟨⟨0,Zes hc⟩,ev,hc,hv⟩
theorem Zj5 {P:Program} {W:World} {name nm:String} {d:DataW Unit} {rest:List (String×DataW Unit)} {g:Nat} {t:TypeId} {ms:Array (String×TypeId)}
  (hg:P.globalNamed name=some g) (hty:(P.globals[g]?).map (·.type)=some t) (ht:P.underlying t=some (.interface ms)) (h:laidMet P ((name, .iface nm d)::rest) W):
  ∀ge,P.globalNamed name=some ge→∃ev,W.cell? ⟨ge,0,none⟩=some ev∧(ev= .nilIface∨∃te pe,ev= .iface te pe):=by
 intro ge hge
 obtain rfl:=Option.some.inj (hg.symm.trans hge)
 obtain ⟨ps,⟨g',t',cs,fuel,p,q,hg',ht',hvar,hd,_,_⟩,_⟩:=h
 obtain rfl:=Option.some.inj (hg.symm.trans hg')
 obtain rfl:=Option.some.inj (hty.symm.trans ht')
 have key:∃ev,cs.toList=[ev]∧(ev= .nilIface∨∃te pe,ev= .iface te pe):=by
  cases fuel with
  | zero=>cases hd
  | succ fuel=>
   unfold DataW.trod at hd
   rw[ht] at hd
   generalize cs.toList=l at hd
   match l,hd with
   | [.nilIface],_=>exact ⟨_,rfl, .inl rfl⟩
   | [.iface u v],_=>exact ⟨_,rfl, .inr ⟨u,v,rfl⟩⟩
 obtain ⟨ev,h1,h2⟩:=key
 have h3:=World.var?_cell hg hvar 0
 refine ⟨ev, ?_,h2⟩
 rw[h3]
 have:cs[0]? =cs.toList[0]? :=by simp
 rw[this,h1];rfl
theorem ZbM {P:Program} {x:String×DataW Unit} {r:List (String×DataW Unit)} {w:World} (h:laidMet P (x::r) w):laidMet P r w:=by
 obtain ⟨ps,hv,hnd,hrows⟩:=h
 obtain ⟨n,d⟩:=x
 obtain ⟨g,t,cs,fuel,p,q,_,_,_,_,hq,rfl⟩:=hv
 exact ⟨q,hq,List.Nodup.sublist (List.sublist_append_right _ _) hnd,fun b off hm=>hrows b off (List.mem_append_right _ hm)⟩
end
end Go.Rx
namespace Go.Rx
noncomputable section
open Go.RowKit
variable {P:Program}
namespace Px
def joinB (xs:List ByteArray) (sep:ByteArray):Bool:=decide (xs.length≤140737488355328) && decide ((Lib.join (xs.map (·.data.toList)) sep.data.toList).length≤140737488355328)
def strings_Join (N:Nat) (xs:List ByteArray) (sep:ByteArray):Option (ByteArray×Unit):=chk (joinB xs sep)<| some (⟨(Lib.join (xs.map (·.data.toList)) sep.data.toList).toArray⟩,())
end Px
theorem ZnT [Laid P] {e:TypeId} {N:Nat} {f:FuncId} {fn:Func} (hf:P.funcs[f]? =some fn) (hname:(fn.name== "runtime.NumGoroutine")=false) (hb0:fn.body.isSome=true)
  (h0:∀(a:Option Addr) (c:Nat) (sep:ByteArray) (w:World),Calls P f #[.slice a 0 c, .string sep] w fun e w'=>e= .returned (.string ⟨#[]⟩)∧w'=w)
  (h:∀(bk o c:Nat) (xs:List ByteArray) (sep:ByteArray) (w:World),(∀(j:Nat) x,xs[j]? =some x→w.cell? ⟨bk,o+j,none⟩=some (.string x))→bk<w.heap.size→xs.length≤140737488355328→xs.length≤c→
   (Lib.join (xs.map (·.data.toList)) sep.data.toList).length≤140737488355328→
   Calls P f #[.slice (some ⟨bk,o,none⟩) xs.length c, .string sep] w fun e w'=>e= .returned (.string ⟨(Lib.join (xs.map (·.data.toList)) sep.data.toList).toArray⟩)∧Below w.heap.size w w'):
  Sat P f ⟨.none,[.slice e .str, .str], .str,1, .ro,fun _ x=>Px.strings_Join N x.1 x.2.1⟩:=by
 obtain ⟨c0,hc0⟩:=Option.isSome_iff_exists.1 hb0
 refine ⟨⟨fn,c0,hf,hname,hc0⟩,fun w T x gh b xs vs0 vs r hg ha hnd hlt hT _ hr=> ?_⟩
 have hg':vs0=[]:=hg
 subst hg'
 obtain ⟨g,vs',rfl,hh,g2,vs2,rfl,_,h3⟩:=ha
 have h3':vs2=[]:=h3
 subst h3'
 obtain ⟨h1,h2⟩:=Zby hr
 simp only[Px.joinB,Bool.and_eq_true,decide_eq_true_eq] at h1
 cases h2
 simp only[Holds] at hh
 obtain ⟨⟨A,cap,q1,q2,q3,q4,q5,q6⟩,_⟩:=hh
 have hv:toV (.slice e .str) (cells (.slice e .str) xs.1 g)= .slice A xs.1.length cap:=by simp [toV,Ty.agg,cells,q1]
 have hv2:toV .str (cells .str xs.2.1 g2)= .string xs.2.1:=rfl
 rw[hv,hv2]
 have fin:∀(e1:Ending) (w':World),e1= .returned (.string ⟨(Lib.join (xs.1.map (·.data.toList)) xs.2.1.data.toList).toArray⟩)→Below w.heap.size w w'→
   ∃v,e1= .returned v∧RetOk ⟨.none,[.slice e .str, .str], .str,1, .ro,fun _ x=>Px.strings_Join N x.1 x.2.1⟩ w T x gh b (⟨(Lib.join (xs.1.map (·.data.toList)) xs.2.1.data.toList).toArray⟩,()) v w':=fun e1 w' he hb=>
  ⟨_,he,ZbZ (g:= .leaf) hb rfl (fun _ _=>trivial) (fun e2 k hk=>(hT e2 k hk).1)⟩
 by_cases hx:xs.1=[]
 ·have hl:xs.1.length=0:=by rw[hx];rfl
  rw[hl]
  refine (h0 A cap xs.2.1 w).mono fun e w' ⟨he,hw⟩=> ?_
  refine fin e w' ?_ (hw▸Below.refl _ _)
  rw[he,hx];rfl
 ·obtain ⟨a,ha1,ha2⟩:=q5 hx
  have hs:=q3 hx a ha1
  obtain ⟨bk,o,sp⟩:=a
  simp only at hs
  subst hs
  rw[ha1]
  refine (h bk o cap xs.1 xs.2.1 w (fun j x hj=> ?_) (hT e bk ha2).1 h1.1 q2 h1.2).mono fun e w' ⟨he,hw⟩=>fin e w' he hw
  have hjl:j<xs.1.length:=(List.getElem?_eq_some_iff.1 hj).1
  have:=(q6 _ ha1).elem (s:=1) rfl (fun i _=>rfl) j hjl 0 (.string x) (by simp [cells,List.getD_eq_getElem?_getD,hj])
  by_cases hj0:j=0
  ·subst hj0;simpa [Addr.add] using this
  ·simpa [Addr.add,hj0] using this
namespace Px
def strconv_Atoi (N:Nat) (s:ByteArray):Option ((Int×Bool)×Unit):=chk (decide (s.size≤18))<| some (((Lib.atoi s.data.toList).getD 0,(Lib.atoi s.data.toList).isSome),())
end Px
theorem Zms {w:World} {T:TypeId→Nat→Prop} {xs:ADen [.str]} {vs:List Value} (h:ArgsOk w T [.str] xs vs):vs=[.string xs.1]:=by
 obtain ⟨g,vs',rfl,_,h3⟩:=h
 have h3':vs'=[]:=h3
 subst h3'
 rfl
theorem ZnU (gm ge:Nat) {e:TypeId} {N:Nat} {f:FuncId} {fn:Func} (hf:P.funcs[f]? =some fn) (hname:(fn.name== "runtime.NumGoroutine")=false) (hb0:fn.body.isSome=true) (hge:P.globalNamed "strconv.ErrSyntax"=some ge)
  (h:∀(s:ByteArray) (n:Int),s.size≤18→Lib.atoi s.data.toList=some n→∀w:World,Calls P f #[.string s] w fun e1 w'=>e1= .returned (.tuple #[.int .i64 n, .nilIface])∧∃t,w'=Lib.bytesWorld w e t)
  (h0:∀(s:ByteArray),s.size≤18→Lib.atoi s.data.toList=none→∀(ev:Value) (w:World),w.cell? ⟨ge,0,none⟩=some ev→(ev= .nilIface∨∃te pe,ev= .iface te pe)→
   Calls P f #[.string s] w fun e1 w'=>(∃te pe,e1= .returned (.tuple #[.int .i64 0, .iface te pe]))∧Below w.heap.size w w'):
  letI:=doorLaid P gm;Sat P f ⟨.none,[.str], .prod (.int .i64) .err,2, .ro,fun _ x=>Px.strconv_Atoi N x.1⟩:=by
 letI:=doorLaid P gm
 obtain ⟨c0,hc0⟩:=Option.isSome_iff_exists.1 hb0
 refine ⟨⟨fn,c0,hf,hname,hc0⟩,fun w T x gh b xs vs0 vs r hg ha hnd hlt hT hD hr=> ?_⟩
 have hg':vs0=[]:=hg
 subst hg'
 rw[Zms ha]
 obtain ⟨h1,h2⟩:=Zby hr
 have hs:=of_decide_eq_true h1
 cases h2
 obtain ⟨_,gt,_,⟨_,hE⟩,_⟩:=hD
 obtain ⟨_,ev,hc,hv⟩:=hE ge hge
 cases ho:Lib.atoi xs.1.data.toList with
 | some n=>
  refine (h xs.1 n hs ho w).mono fun e1 w' ⟨he,t,hw⟩=>⟨_,he, ?_⟩
  subst hw
  exact ZbZ (g:= .pr .leaf (.hd .nilIface)) (Lib.bytesWorld_below _ _ _) rfl (fun _ _=>by simp [Holds,Gh.r,Gh.head]) (fun e k hk=>(hT e k hk).1)
 | none=>
  refine (h0 xs.1 hs ho ev w hc hv).mono fun e1 w' ⟨⟨te,pe,he⟩,hw⟩=>⟨_,he, ?_⟩
  exact ZbZ (g:= .pr .leaf (.hd (.iface te pe))) hw rfl (fun _ _=>by simp [Holds,Gh.r,Gh.head]) (fun e k hk=>(hT e k hk).1)
namespace Px
def strings_Split (N:Nat) (s sep:ByteArray):Option (List ByteArray×Unit):=chk (decide (s.size<4294967281) && decide (1≤sep.size))<| some (Lib.splitB sep 0 (Lib.countB s sep) s,())
end Px
theorem Zjk (xs:List ByteArray):∀n,n≤xs.length→catN (fun i=>cells .str (xs.getD i (Ty.dflt .str)) .leaf) n=(xs.take n).map Value.string
 | 0,_=>rfl
 | n+1,h=>by
  simp only[catN]
  rw[Zjk xs n (by omega),List.take_add_one,List.getElem?_eq_getElem (by omega),List.map_append]
  simp [cells,List.getD_eq_getElem?_getD,List.getElem?_eq_getElem (show n<xs.length by omega)]
theorem Zmt (gm:Nat) {e:TypeId} {N:Nat} {f:FuncId} {fn:Func} (hf:P.funcs[f]? =some fn) (hname:(fn.name== "runtime.NumGoroutine")=false) (hb0:fn.body.isSome=true)
  (h:∀(s sep:ByteArray) (m:Int) (w:World),s.size<4294967281→w.cell? ⟨gm,0,none⟩=some (.int .i64 m)→1≤sep.size→
   Calls P f #[.string s, .string sep] w fun e1 w'=>e1= .returned (.slice (some ⟨w.heap.size,0,none⟩) (Lib.countB s sep+1) (Lib.countB s sep+1))∧w'=w.alloc (.cells ((Lib.splitB sep 0 (Lib.countB s sep) s).map Value.string).toArray e)):
  letI:=doorLaid P gm;Sat P f ⟨.none,[.str, .str], .slice e .str,1, .own .ro,fun _ x=>Px.strings_Split N x.1 x.2.1⟩:=by
 letI:=doorLaid P gm
 obtain ⟨c0,hc0⟩:=Option.isSome_iff_exists.1 hb0
 refine ⟨⟨fn,c0,hf,hname,hc0⟩,fun w T x gh b xs vs0 vs r hg ha hnd hlt hT hD hr=> ?_⟩
 have hg':vs0=[]:=hg
 subst hg'
 rw[Zer ha]
 obtain ⟨h1,h2⟩:=Zby hr
 simp only[Bool.and_eq_true,decide_eq_true_eq] at h1
 cases h2
 obtain ⟨⟨_,m,hm⟩,_⟩:=hD
 have hlen:(Lib.splitB xs.2.1 0 (Lib.countB xs.1 xs.2.1) xs.1).length=Lib.countB xs.1 xs.2.1+1:=Lib.splitB_all xs.2.1 h1.2 0 _ xs.1 rfl
 have hle:=Lib.countB_le xs.2.1 h1.2 xs.1.size xs.1 (Nat.le_refl _)
 refine (h xs.1 xs.2.1 m w h1.1 hm h1.2).mono fun e1 w' ⟨he,hw⟩=>⟨_,he, ?_⟩
 subst hw
 generalize hL:Lib.splitB xs.2.1 0 (Lib.countB xs.1 xs.2.1) xs.1=L at hlen ⊢
 have hsz:(w.alloc (.cells (L.map Value.string).toArray e)).heap.size=w.heap.size+1:=by simp
 have hfoot:foot (.slice e .str) (.own .ro) L (.row (.slice (some ⟨w.heap.size,0,none⟩) (Lib.countB xs.1 xs.2.1+1) (Lib.countB xs.1 xs.2.1+1)) fun _=> .leaf)=[w.heap.size]:=by
  simp only[foot,Gh.head,Gh.at]
  rw[Zbd (fun _ _=>rfl)]
  simp [Value.ownBlock]
 have hb:Below w.heap.size w (w.alloc (.cells (L.map Value.string).toArray e)):=(Below.refl _ _).alloc (Nat.le_refl _) _
 refine ⟨.row (.slice (some ⟨w.heap.size,0,none⟩) (Lib.countB xs.1 xs.2.1+1) (Lib.countB xs.1 xs.2.1+1)) fun _=> .leaf, .leaf,T,⟨hb.os,hb.tape,hb.output,hb.size,fun k hk _=>hb.block k hk⟩, ?_, ?_,trivial, ?_, ?_, ?_⟩
 ·simp [toV,Ty.agg,cells,Gh.head]
 ·simp only[Holds,Gh.head,Gh.at]
  refine ⟨⟨ZL (fun _ _=>rfl), .inr ⟨w.heap.size,L.length,(L.map Value.string).toArray,by rw[hlen],⟨(0,0), .inl rfl,heap_alloc_new w _⟩,Nat.le_refl _, ?_,by simp [Ty.sz], ?_⟩⟩,fun _ _=>trivial⟩
  ·rw[hlen];have:(4294967281:Nat)≤maxLen:=by decide
   omega
  ·rw[Zjk L L.length (Nat.le_refl _)];simp [Ty.sz,List.take_of_length_le]
 ·show (foot (.slice e .str) (.own .ro) L (.row (.slice (some ⟨w.heap.size,0,none⟩) (Lib.countB xs.1 xs.2.1+1) (Lib.countB xs.1 xs.2.1+1)) fun _=> .leaf)++[]).Nodup
  rw[List.append_nil,hfoot];simp
 ·intro k hk
  have hk':k∈foot (.slice e .str) (.own .ro) L (.row (.slice (some ⟨w.heap.size,0,none⟩) (Lib.countB xs.1 xs.2.1+1) (Lib.countB xs.1 xs.2.1+1)) fun _=> .leaf):=by simpa [backFeet] using hk
  rw[hfoot] at hk'
  obtain rfl:k=w.heap.size:=by simpa using hk'
  exact ⟨by rw[hsz];omega, .inl (Nat.le_refl _)⟩
 ·intro e2 k hk
  have hlt:=(hT e2 k hk).1
  refine ⟨.inl hk,by rw[hsz];omega,fun hin=> ?_⟩
  have hk':k∈foot (.slice e .str) (.own .ro) L (.row (.slice (some ⟨w.heap.size,0,none⟩) (Lib.countB xs.1 xs.2.1+1) (Lib.countB xs.1 xs.2.1+1)) fun _=> .leaf):=by simpa [backFeet] using hin
  rw[hfoot] at hk'
  obtain rfl:k=w.heap.size:=by simpa using hk'
  omega
end
end Go.Rx
namespace Go.Rx
noncomputable section
open Go.RowKit
variable {P:Program}
namespace Px
def lexC:List Int→List Int→Int
 | [],[]=>0
 | [],_::_=> -1
 | _::_,[]=>1
 | a::x,b::y=>if a<b then -1 else if b<a then 1 else lexC x y
def setC (a b:List Int):Int:=if a.length=b.length then lexC a b else (a.length:Int) - (b.length:Int)
def leC (x y:List Int):Bool:= !decide (setC y x<0)
def sortOk (xs:List (List Int)):Bool:=decide (xs.length≤1000000) && (xs.all (fun r=>decide (r.length≤1000000)) && decide xs.Nodup)
def slices_SortFunc_int_int__impl_sets_1 (N:Nat) (xs:List (List Int)):Option (Bool×List (List Int)):=chk (sortOk xs)<| some (false,xs.mergeSort leC)
theorem Zjl:∀x,lexC x x=0
 | []=>rfl
 | a::x=>by simp only[lexC];rw[if_neg (by omega),if_neg (by omega)];exact Zjl x
theorem ZkQ:∀x y,lexC y x= -lexC x y
 | [],[] | [],_::_ | _::_,[]=>rfl
 | a::x,b::y=>by
  simp only[lexC]
  by_cases h1:a<b
  ·rw[if_neg (by omega),if_pos h1,if_pos h1];rfl
  ·by_cases h2:b<a
   ·rw[if_pos h2,if_neg h1,if_pos h2]
   ·rw[if_neg h2,if_neg h1,if_neg h1,if_neg h2];exact ZkQ x y
theorem Zjm:∀x y,lexC x y=0→x=y
 | [],[],_=>rfl
 | [],_::_,h | _::_,[],h=>by simp [lexC] at h
 | a::x,b::y,h=>by
  simp only[lexC] at h
  by_cases h1:a<b
  ·rw[if_pos h1] at h;omega
  ·by_cases h2:b<a
   ·rw[if_neg h1,if_pos h2] at h;omega
   ·rw[if_neg h1,if_neg h2] at h
    rw[show a=b by omega,Zjm x y h]
theorem ZhF:∀x y z,lexC x y<0→lexC y z<0→lexC x z<0
 | [],[],_,h,_=>by simp [lexC] at h
 | [],_::_,[],_,h=>by simp [lexC] at h
 | [],_::_,_::_,_,_=>by simp [lexC]
 | _::_,[],_,h,_=>by simp [lexC] at h
 | _::_,_::_,[],_,h=>by simp [lexC] at h
 | a::x,b::y,c::z,h,k=>by
  simp only[lexC] at h k ⊢
  by_cases h1:a<b
  ·by_cases k1:b<c
   ·rw[if_pos (by omega)];omega
   ·by_cases k2:c<b
    ·rw[if_neg k1,if_pos k2] at k;omega
    ·rw[if_pos (by omega)];omega
  ·by_cases h2:b<a
   ·rw[if_neg h1,if_pos h2] at h;omega
   ·rw[if_neg h1,if_neg h2] at h
    by_cases k1:b<c
    ·rw[if_pos (by omega)];omega
    ·by_cases k2:c<b
     ·rw[if_neg k1,if_pos k2] at k;omega
     ·rw[if_neg k1,if_neg k2] at k
      rw[if_neg (by omega),if_neg (by omega)]
      exact ZhF x y z h k
theorem Zjn (x:List Int):setC x x=0:=by simp only[setC,if_true];exact Zjl x
theorem ZcE (x y:List Int):setC y x= -setC x y:=by
 simp only[setC]
 by_cases h:x.length=y.length
 ·rw[if_pos h.symm,if_pos h];exact ZkQ x y
 ·rw[if_neg (fun e=>h e.symm),if_neg h];omega
theorem Zet {x y:List Int} (h:setC x y=0):x=y:=by
 simp only[setC] at h
 by_cases q:x.length=y.length
 ·rw[if_pos q] at h;exact Zjm x y h
 ·rw[if_neg q] at h;omega
theorem ZhG {x y z:List Int} (h:setC x y<0) (k:setC y z<0):setC x z<0:=by
 simp only[setC] at h k ⊢
 by_cases q1:x.length=y.length
 ·by_cases q2:y.length=z.length
  ·rw[if_pos q1] at h;rw[if_pos q2] at k;rw[if_pos (q1.trans q2)];exact ZhF x y z h k
  ·rw[if_neg q2] at k;rw[if_neg (by omega)];omega
 ·rw[if_neg q1] at h
  by_cases q2:y.length=z.length
  ·rw[if_neg (by omega)];omega
  ·rw[if_neg q2] at k;rw[if_neg (by omega)];omega
theorem ZdY {x y z:List Int} (h:¬setC x y<0) (k:¬setC y z<0):¬setC x z<0:=by
 intro hz
 have h1:=ZcE x y
 have k1:=ZcE y z
 have z1:=ZcE x z
 by_cases e1:setC x y=0
 ·rw[Zet e1] at hz;exact k hz
 ·by_cases e2:setC y z=0
  ·rw[←Zet e2] at hz;exact h hz
  ·have:=ZhG (x:=z) (y:=y) (z:=x) (by omega) (by omega)
   omega
end Px
open Go.Proofs in
open Go.Sort in
theorem Zo6 {α:Type} [Inhabited α] (enc:α→Value) {w:World} {g n:Nat} {os:Array Obj} {cur:Array Value} {e:TypeId} {fr:Nat×Nat} (d:Array α) (hb:w.heap[g]? =some (.cells cur e fr)):
  (Go.Proofs.sortWorld enc w g 0 n d os).heap[g]? =some (.cells (putCells enc 0 d cur) e fr):=by
 have hg:g<w.heap.size:=(Array.getElem?_eq_some_iff.1 hb).1
 unfold Go.Proofs.sortWorld
 rw[heap_grow_old _ _ (by simpa using hg)]
 simp [putRow,mapBlock,Sort.ahead,Array.getElem?_modify,hb,onCells]
open Go.Sort in
theorem Ze6 {α:Type} [Inhabited α] (enc:α→Value) {w:World} {g n k:Nat} {os:Array Obj} (d:Array α) (hk:k<w.heap.size) (hne:g≠k):(Go.Proofs.sortWorld enc w g 0 n d os).heap[k]? =w.heap[k]? :=by
 unfold Go.Proofs.sortWorld
 rw[heap_grow_old _ _ (by simpa using hk)]
 simp [putRow,mapBlock,Sort.ahead,Array.getElem?_modify,hne]
open Go.Sort in
theorem Zo7 {α:Type} [Inhabited α] (enc:α→Value) (w:World) (g n:Nat) (os:Array Obj) (d:Array α):w.heap.size≤(Go.Proofs.sortWorld enc w g 0 n d os).heap.size:=by
 unfold Go.Proofs.sortWorld grow;simp
def RowAt (w:World) (v:Value) (xs:List Int):Prop:=
 ∃A cap,v= .slice A xs.length cap∧(xs≠[]→∃b o,A=some ⟨b,o,none⟩)∧∀b o,A=some ⟨b,o,none⟩→∀j,j<xs.length→w.cell? ⟨b,o+j,none⟩=some (.int .i64 (xs.getD j 0))
theorem ZnV {w:World} {T:TypeId→Nat→Prop} {e:TypeId} {xs:List Int} {g:Gh} (h:Holds w T (.slice e (.int .i64)) .ro xs g):RowAt w g.head xs:=by
 simp only[Holds] at h
 obtain ⟨⟨A,cap,q1,q2,q3,q4,q5,q6⟩,_⟩:=h
 refine ⟨A,cap,q1,fun hx=> ?_,fun b o hA j hj=> ?_⟩
 ·obtain ⟨a,ha,_⟩:=q5 hx
  have:=q3 hx a ha
  obtain ⟨b,o,s⟩:=a
  simp only at this
  subst this
  exact ⟨b,o,ha⟩
 ·have:=(q6 _ hA).elem (s:=1) rfl (fun i _=>rfl) j hj 0 (.int .i64 (xs.getD j 0)) (by simp [cells,Ty.dflt])
  by_cases hj0:j=0
  ·subst hj0;simpa [Addr.add] using this
  ·simpa [Addr.add,hj0] using this
theorem ZhH {w w':World} {v:Value} {xs:List Int} (h:RowAt w v xs) (hk:∀A n cap b o,v= .slice A n cap→A=some ⟨b,o,none⟩→xs≠[]→w'.heap[b]? =w.heap[b]?):RowAt w' v xs:=by
 obtain ⟨A,cap,h1,h2,h3⟩:=h
 refine ⟨A,cap,h1,h2,fun b o hA j hj=> ?_⟩
 rw[World.cell?_of_block (w:=w) (hk A _ cap b o h1 hA (by rintro rfl;simp at hj))]
 exact h3 b o hA j hj
theorem Zij {f:Nat→Value}:∀n,catN (fun i=>[f i]) n=(List.range n).map f
 | 0=>rfl
 | n+1=>by simp only[catN];rw[Zij n,List.range_succ,List.map_append];rfl
open Go.Proofs in
theorem Zjo [Laid P] {e2 e:TypeId} {N:Nat} {f g:FuncId} {fn:Func} (hf:P.funcs[f]? =some fn) (hname:(fn.name== "runtime.NumGoroutine")=false) (hb0:fn.body.isSome=true)
  (hnone:∀(p:Option Addr) (cap:Nat) (fv:Value) (w:World),Calls P f #[.slice p 0 cap,fv] w fun e1 w'=>e1= .returned (.tuple #[])∧w'=w)
  (hsort:∀(k:Nat) (enc:Fin (k+1)→Value),OneCell enc→∀cf:Fin (k+1)→Fin (k+1)→Int,Go.Sort.SWO (ltOf cf)→∀(blk cap:Nat) (d:Array (Fin (k+1))) (w:World),CmpLays1 P g #[] enc cf blk 0 d.size w→Go.Sort.Holds enc w blk 0 d→blk<w.heap.size→d.size<4611686018427387904→(∀x y,ltOf cf x y=false→ltOf cf y x=false→x=y)→
   Calls P f #[.slice (some ⟨blk,0,none⟩) d.size cap, .func (.func g) #[] #[]] w fun e1 w'=>e1= .returned (.tuple #[])∧∃n os,w'=Go.Proofs.sortWorld enc w blk 0 n (d.toList.mergeSort fun x y=> !(ltOf cf) y x).toArray os)
  (hcl:∀(va vb:Value) (xs ys:List Int) (w:World),RowAt w va xs→RowAt w vb ys→xs.length≤1000000→ys.length≤1000000→Calls P g #[va,vb] w fun e1 w'=>e1= .returned (.int .i64 (Px.setC xs ys))∧w'=w):
  SatT P f (some g) ⟨.«mut» (.slice e2 (.slice e (.int .i64))) (.own .ro) (.own .ro),[], .bool,0, .ro,fun xs _=>Px.slices_SortFunc_int_int__impl_sets_1 N xs⟩:=by
 obtain ⟨c0,hc0⟩:=Option.isSome_iff_exists.1 hb0
 refine ⟨⟨fn,c0,hf,hname,hc0⟩,fun w T x gh b xs vs0 vs r hg ha hnd hlt hT _ hr=> ?_⟩
 obtain ⟨hh,hvs⟩:=hg
 subst hvs
 have ha':vs=[]:=ha
 subst ha'
 obtain ⟨h1,h2⟩:=Zby hr
 cases h2
 simp only[Px.sortOk,Bool.and_eq_true,decide_eq_true_eq,List.all_eq_true] at h1
 obtain ⟨hl1,hl2,hnodup⟩:=h1
 have hv:toV (.slice e2 (.slice e (.int .i64))) (cells (.slice e2 (.slice e (.int .i64))) x gh)=gh.head:=rfl
 have hh0:=hh
 unfold Holds at hh
 obtain ⟨⟨hlen,hown⟩,hel0⟩:=hh
 have hel:∀i,i<x.length→Holds w T (.slice e (.int .i64)) .ro (x.getD i []) (gh.at i):=hel0
 by_cases hx:x=[]
 ·subst hx
  have hhead:∃p cap,gh.head= .slice p 0 cap:=by
   rcases hown with ⟨h,_⟩ | ⟨bk,cap,cur,h,_⟩
   ·exact ⟨_,_,h⟩
   ·exact ⟨_,_,h⟩
  obtain ⟨p,cap,hp⟩:=hhead
  show Calls P f #[toV (.slice e2 (.slice e (.int .i64))) (cells (.slice e2 (.slice e (.int .i64))) [] gh), .func (.func g) #[] #[]] w _
  rw[hv,hp]
  refine (hnone p cap _ w).mono fun e1 w' ⟨he,hw⟩=>⟨_,he, ?_⟩
  subst hw
  refine ⟨.leaf,gh,T,⟨rfl,rfl,rfl,Nat.le_refl _,fun _ _ _=>rfl⟩,rfl,trivial,⟨by rw[List.mergeSort_nil];exact hh0,by rw[List.mergeSort_nil]⟩, ?_, ?_, ?_⟩
  ·simp only[List.mergeSort_nil];exact hnd
  ·intro k hk
   simp only[List.mergeSort_nil] at hk
   exact ⟨hlt k hk, .inr hk⟩
  ·intro e1 k hk
   have:=hT e1 k hk
   refine ⟨.inl hk,this.1, ?_⟩
   simp only[List.mergeSort_nil];exact this.2
 ·rcases hown with ⟨_,h0⟩ | ⟨bk,cap,cur,hp,⟨fr,hfr,hcell⟩,hnc,hcap,hcs,htake⟩
  ·exact absurd (List.eq_nil_of_length_eq_zero h0) hx
  ·have hfr0:fr=(0,0):=by
    rcases hfr with h | ⟨h,_⟩
    ·exact h
    ·cases h
   subst hfr0
   obtain ⟨k,hk⟩:∃k,x.length=k+1:=⟨x.length - 1,by have:=List.length_pos_iff.2 hx;omega⟩
   have hbk:bk<w.heap.size:=(Array.getElem?_eq_some_iff.1 hcell).1
   have hfoot:givFeet (.«mut» (.slice e2 (.slice e (.int .i64))) (.own .ro) (.own .ro)) x gh b=[bk]:=by
    show foot (.slice e2 (.slice e (.int .i64))) (.own .ro) x gh=[bk]
    simp only[foot,hp,Value.ownBlock,Option.toList]
    rw[Zbd (fun _ _=>rfl)];rfl
   rw[hfoot] at hlt hT
   let enc:Fin (k+1)→Value:=fun i=>(gh.at i).head
   let fx:Fin (k+1)→List Int:=fun i=>x.getD i []
   let cf:Fin (k+1)→Fin (k+1)→Int:=fun i j=>Px.setC (fx i) (fx j)
   have hrow:∀i:Fin (k+1),RowAt w (enc i) (fx i)∧(fx i).length≤1000000:=fun i=>by
    have hi:(i:Nat)<x.length:=by rw[hk];exact i.2
    refine ⟨ZnV (hel i hi), ?_⟩
    have:=hl2 (x.getD i []) (by rw[List.getD_eq_getElem?_getD,List.getElem?_eq_getElem hi];simp)
    exact this
   have hTr:∀i:Fin (k+1),∀A n cp b o,enc i= .slice A n cp→A=some ⟨b,o,none⟩→fx i≠[]→b<w.heap.size∧b≠bk:=fun i A n cp b o h1 h2 h3=>by
    have hi:(i:Nat)<x.length:=by rw[hk];exact i.2
    have:=hel i hi
    unfold Holds at this
    obtain ⟨⟨A',cap',q1,q2,q3,q4,q5,q6⟩,_⟩:=this
    obtain ⟨a,ha1,ha2⟩:=q5 h3
    have e1:A'=A:=by
     have:Value.slice A n cp=Value.slice A' (x.getD i (Ty.dflt (.slice e (.int .i64)))).length cap':=h1.symm.trans q1
     injection this with h _ _;exact h.symm
    subst e1
    rw[h2] at ha1
    cases ha1
    have:=hT e _ ha2
    simpa using this
   have hltc:∀i j,ltOf cf i j=decide (Px.setC (fx i) (fx j)<0):=fun _ _=>rfl
   have hinj:∀i j,fx i=fx j→i=j:=fun i j h=>by
    have hi:(i:Nat)<x.length:=by rw[hk];exact i.2
    have hj:(j:Nat)<x.length:=by rw[hk];exact j.2
    simp only[fx,List.getD_eq_getElem?_getD,List.getElem?_eq_getElem hi,List.getElem?_eq_getElem hj,Option.getD_some] at h
    have hne:=List.pairwise_iff_getElem.1 hnodup
    rcases Nat.lt_trichotomy i.1 j.1 with q | q | q
    ·exact absurd h (hne i.1 j.1 hi hj q)
    ·exact Fin.ext q
    ·exact absurd h.symm (hne j.1 i.1 hj hi q)
   have hfin:(List.finRange (k+1)).map fx=x:=by
    apply List.ext_getElem (by simp [hk])
    intro i h1 h2
    simp [fx,List.getD_eq_getElem?_getD,List.getElem?_eq_getElem h2]
   have hcat:cur.toList.take (k+1)=(List.range (k+1)).map fun i=>(gh.at i).head:=by
    have:catN (fun i=>cells (.slice e (.int .i64)) (x.getD i (Ty.dflt (.slice e (.int .i64)))) (gh.at i)) x.length=(List.range x.length).map fun i=>(gh.at i).head:=Zij _
    rw[←hk,←this,←htake]
    simp [Ty.sz]
   have hH:Go.Sort.Holds enc w bk 0 (List.finRange (k+1)).toArray:=fun j hj=>by
    have hj':j<k+1:=by simpa using hj
    have h1:(cur.toList.take (k+1))[j]? =((List.range (k+1)).map fun i=>(gh.at i).head)[j]? :=by rw[hcat]
    rw[List.getElem?_take_of_lt hj'] at h1
    refine ⟨?_,by simp [World.frozen?,hcell]⟩
    simp only[World.cell?,hcell,Nat.zero_add]
    simp only[Option.isSome_none,Bool.false_eq_true,if_false]
    rw[←Array.getElem?_toList,h1]
    simp [hj',enc]
   have hcmp:CmpLays1 P g #[] enc cf bk 0 (List.finRange (k+1)).toArray.size w:=fun m os dk hdk i j=>by
    refine (hcl (enc i) (enc j) (fx i) (fx j) _ (ZhH (hrow i).1 fun A n cp b o h1 h2 h3=> ?_) (ZhH (hrow j).1 fun A n cp b o h1 h2 h3=> ?_) (hrow i).2 (hrow j).2).mono fun e1 w' ⟨he,hw⟩=>⟨he,0, #[],by rw[hw];rfl⟩
    ·have:=hTr i A n cp b o h1 h2 h3
     exact Ze6 enc dk this.1 (fun h=>this.2 h.symm)
    ·have:=hTr j A n cp b o h1 h2 h3
     exact Ze6 enc dk this.1 (fun h=>this.2 h.symm)
   have hS:Go.Sort.SWO (ltOf cf):=⟨fun i=>by rw[hltc,Px.Zjn];rfl,fun i j l h1 h2=>by
     rw[hltc] at h1 h2 ⊢
     simp only[decide_eq_true_eq] at h1 h2 ⊢
     exact Px.ZhG h1 h2,fun i j l h1 h2=>by
     rw[hltc] at h1 h2 ⊢
     simp only[decide_eq_false_iff_not] at h1 h2 ⊢
     exact Px.ZdY h1 h2⟩
   have hT2:∀i j,ltOf cf i j=false→ltOf cf j i=false→i=j:=fun i j h1 h2=>by
    rw[hltc] at h1 h2
    simp only[decide_eq_false_iff_not] at h1 h2
    have:=Px.ZcE (fx i) (fx j)
    exact hinj i j (Px.Zet (by omega))
   show Calls P f #[gh.head, .func (.func g) #[] #[]] w _
   have hsz:(List.finRange (k+1)).toArray.size=x.length:=by simp [hk]
   rw[hp,←hsz]
   have hO:OneCell enc:=fun i=>by
    obtain ⟨A,cp,hA,_⟩:=(hrow i).1
    show (enc i).oneCell'=true
    rw[hA];rfl
   refine (hsort k enc hO cf hS bk cap _ w hcmp hH hbk (by rw[hsz];omega) hT2).mono fun e1 w' ⟨he,m,os,hw⟩=>⟨_,he, ?_⟩
   have hmap:x.mergeSort Px.leC=((List.finRange (k+1)).mergeSort fun i j=> !(ltOf cf) j i).map fx:=by
    conv=>lhs;rw[←hfin]
    exact (List.map_mergeSort (f:=fx) (r:=fun i j=> !(ltOf cf) j i) (s:=Px.leC) (fun i _ j _=>rfl)).symm
   rw[List.toList_toArray] at hw
   generalize hL:((List.finRange (k+1)).mergeSort fun i j=> !(ltOf cf) j i)=L at hw hmap
   have hLl:L.length=k+1:=by rw[←hL,List.length_mergeSort];simp
   have hxl:(x.mergeSort Px.leC).length=k+1:=by rw[List.length_mergeSort,hk]
   let gh':Gh:= .row gh.head fun i=>gh.at (L.getD i 0:Fin (k+1))
   have hget:∀i,i<k+1→(x.mergeSort Px.leC).getD i []=x.getD ((L.getD i 0:Fin (k+1)):Nat) []:=fun i hi=>by
    rw[hmap]
    simp [List.getD_eq_getElem?_getD,List.getElem?_map,List.getElem?_eq_getElem (show i<L.length by omega),fx]
   have hfr:Frame w [bk] w':=⟨by rw[hw];rfl,by rw[hw];rfl,by rw[hw];rfl,by rw[hw];exact Zo7 _ _ _ _ _ _,fun j hj hn=>by rw[hw];exact Ze6 enc _ hj (by simpa using fun h:bk=j=>hn (by simp [h]))⟩
   have hkept:Kept w T w' T:=fun e1 j hj=>⟨hfr.block j (hT e1 j hj).1 (hT e1 j hj).2,hj⟩
   have hcell':w'.heap[bk]? =some (.cells (Go.Sort.putCells enc 0 L.toArray cur) e2 (0,0)):=by rw[hw];exact Zo6 enc L.toArray hcell
   have hnew:Holds w' T (.slice e2 (.slice e (.int .i64))) (.own .ro) (x.mergeSort Px.leC) gh':=by
    unfold Holds
    refine ⟨⟨ZL (fun _ _=>rfl), .inr ⟨bk,cap,_,by show gh.head=_;rw[hp,List.length_mergeSort],⟨(0,0), .inl rfl,hcell'⟩,by rw[List.length_mergeSort];exact hnc,hcap,by simpa [Go.Sort.putCells] using hcs, ?_⟩⟩,fun i hi=> ?_⟩
    ·have e1:catN (fun i=>cells (.slice e (.int .i64)) ((x.mergeSort Px.leC).getD i (Ty.dflt (.slice e (.int .i64)))) (gh'.at i)) (x.mergeSort Px.leC).length=(List.range (x.mergeSort Px.leC).length).map fun i=>(gh'.at i).head:=Zij _
     rw[e1,hxl]
     have hcs':k+1≤cur.size:=by rw[hcs];simp only[Ty.sz];omega
     apply List.ext_getElem?
     intro j
     by_cases hj:j<k+1
     ·rw[List.getElem?_take_of_lt (by simp only[Ty.sz];omega),Array.getElem?_toList]
      simp [Go.Sort.putCells,hj,hLl,show j<cur.size by omega,gh',Gh.at,enc,List.getD_eq_getElem?_getD,List.getElem?_eq_getElem (show j<L.length by omega)]
     ·rw[List.getElem?_take_eq_none (by simp only[Ty.sz];omega),List.getElem?_eq_none (by simp;omega)]
    ·rw[hxl] at hi
     have hlt2:((L.getD i 0:Fin (k+1)):Nat)<x.length:=by rw[hk];exact (L.getD i 0).2
     have:=(hel _ hlt2).kept hkept
     show Holds w' T (.slice e (.int .i64)) .ro ((x.mergeSort Px.leC).getD i []) (gh'.at i)
     rw[hget i hi]
     exact this
   have hback:backFeet (.«mut» (.slice e2 (.slice e (.int .i64))) (.own .ro) (.own .ro)) (x.mergeSort Px.leC) gh' b=[bk]:=by
    show foot (.slice e2 (.slice e (.int .i64))) (.own .ro) (x.mergeSort Px.leC) gh'=[bk]
    simp only[foot,gh',Gh.head,hp,Value.ownBlock,Option.toList]
    have hp':gh.head= .slice (some ⟨bk,0,none⟩) x.length cap:=hp
    rw[Zbd (fun _ _=>rfl)]
    cases gh<;>simp_all [Gh.head,Value.ownBlock]
   refine ⟨.leaf,gh',T,by rw[hfoot];exact hfr,rfl,trivial,⟨hnew,rfl⟩, ?_, ?_, ?_⟩
   ·show (foot .bool .ro false .leaf++backFeet _ _ gh' b).Nodup
    rw[hback];simp [foot]
   ·intro j hj
    have hj':j∈foot .bool .ro false .leaf++backFeet (.«mut» (.slice e2 (.slice e (.int .i64))) (.own .ro) (.own .ro)) (x.mergeSort Px.leC) gh' b:=hj
    rw[hback] at hj'
    obtain rfl:j=bk:=by simpa [foot] using hj'
    exact ⟨Nat.lt_of_lt_of_le hbk hfr.size, .inr (by rw[hfoot];simp)⟩
   ·intro e1 j hj
    have:=hT e1 j hj
    refine ⟨.inl hj,Nat.lt_of_lt_of_le this.1 hfr.size, ?_⟩
    show j∉foot .bool .ro false .leaf++backFeet (.«mut» (.slice e2 (.slice e (.int .i64))) (.own .ro) (.own .ro)) (x.mergeSort Px.leC) gh' b
    rw[hback];simpa [foot] using this.2
end
end Go.Rx
namespace Go.Rx
noncomputable section
open Go.RowKit
variable {P:Program}
namespace Px
end Px
open Go.Proofs in
open Go.Proofs in
def RowC (B:Nat) (w:World) (v:Value) (xs:List Int):Prop:=
 ∃A cap,v= .slice A xs.length cap∧(A=none→xs.length=0∧cap=0)∧∀ad,A=some ad→∀j,j<xs.length→ad.spot=none∧ad.block<B∧w.cell? ⟨ad.block,ad.off+j,none⟩=some (.int .i64 (xs.getD j 0))
theorem Zmu {B:Nat} {w:World} {A:Option Addr} {xs:List Int} (h3:∀ad,A=some ad→∀j,j<xs.length→ad.spot=none∧ad.block<B∧w.cell? ⟨ad.block,ad.off+j,none⟩=some (.int .i64 (xs.getD j 0))):∀ad,A=some ad→∀j u,(xs.map (Value.int .i64))[j]? =some u→w.cell? (ad.add j)=some u:=fun ad hA j u hu=>by
 have hj:j<xs.length:=by have:=(List.getElem?_eq_some_iff.1 hu).1;simpa using this
 obtain ⟨g0,_,g2⟩:=h3 ad hA j hj
 have hu':u= .int .i64 (xs.getD j 0):=by
  rw[List.getElem?_map,List.getElem?_eq_getElem hj] at hu
  simp only[Option.map_some,Option.some.injEq] at hu
  rw[←hu,List.getD_eq_getElem?_getD,List.getElem?_eq_getElem hj];rfl
 subst hu'
 obtain ⟨bk,o,sp⟩:=ad
 simp only at g0 g2
 subst g0
 by_cases hj0:j=0
 ·subst hj0;simpa [Addr.add] using g2
 ·simpa [Addr.add,hj0] using g2
theorem Zo8 {w:World} {T:TypeId→Nat→Prop} {e:TypeId} {xs:List Int} {g:Gh} (hT:∀e k,T e k→k<w.heap.size) (h:Holds w T (.slice e (.int .i64)) .ro xs g):RowC w.heap.size w g.head xs:=by
 simp only[Holds] at h
 obtain ⟨⟨A,cap,q1,q2,q3,q4,q5,q6⟩,_⟩:=h
 refine ⟨A,cap,q1,fun hA=>⟨?_,q4 hA⟩,fun ad hA j hj=> ?_⟩
 ·have:=q4 hA;omega
 ·have hx:xs≠[]:=by rintro rfl;simp at hj
  obtain ⟨a,ha,hTa⟩:=q5 hx
  have hs:=q3 hx ad hA
  rw[hA] at ha
  cases ha
  refine ⟨hs,hT e _ hTa, ?_⟩
  obtain ⟨bk,o,sp⟩:=ad
  simp only at hs
  subst hs
  have:=(q6 _ hA).elem (s:=1) rfl (fun i _=>rfl) j hj 0 (.int .i64 (xs.getD j 0)) (by simp [cells,Ty.dflt])
  by_cases hj0:j=0
  ·subst hj0;simpa [Addr.add] using this
  ·simpa [Addr.add,hj0] using this
end
end Go.Rx
namespace Go.Rx
noncomputable section
open Go.RowKit
variable {P:Program}
namespace Px
def actWords:List ByteArray:=[⟨#[112,101,114,105,111,100]⟩,⟨#[110,101,101,100]⟩,⟨#[111,114,100,101,114]⟩,⟨#[115,116,101,112]⟩,⟨#[114,101,112,108,97,110]⟩,⟨#[99,108,101,97,114]⟩]
def actAr (k:Int):Nat:=if k=0 then 4 else if k=1 then 2 else if k=2 then 2 else 0
def actOfV (word:ByteArray) (xs:List Int):(Int×Int×Int×Int×Int)×Bool:=
 if Lib.idxOfS actWords word= -1∨xs.length≠actAr (Lib.idxOfS actWords word) then ((0,0,0,0,0),false) else ((Lib.idxOfS actWords word+1,xs.getD 0 0,xs.getD 1 0,xs.getD 2 0,xs.getD 3 0),true)
def impl_actOf (N:Nat) (word:ByteArray) (xs:List Int):Option (((Int×Int×Int×Int×Int)×Bool)×Unit):=chk (decide (xs.length≤1000000))<| some (actOfV word xs,())
end Px
def actVal (k a b c d:Int) (ok:Bool):Value:= .tuple #[.agg #[.int .i64 k, .int .i64 a, .int .i64 b, .int .i64 c, .int .i64 d], .bool ok]
def actV (x:(Int×Int×Int×Int×Int)×Bool):Value:=actVal x.1.1 x.1.2.1 x.1.2.2.1 x.1.2.2.2.1 x.1.2.2.2.2 x.2
abbrev ActCalls (P:Program) (f:FuncId):Prop:=∀(word:ByteArray) (A:Option Addr) (c:Nat) (xs:List Int) (w:World),xs.length≤1000000→(A=none→xs.length=0∧c=0)→(∀ad,A=some ad→∀(j:Nat) u,(xs.map (Value.int .i64))[j]? =some u→ad.block<w.heap.size∧w.cell? (ad.add j)=some u)→
 Calls P f #[.string word, .slice A xs.length c] w fun e w'=>e= .returned (actV (Px.actOfV word xs))∧Below w.heap.size w w'
theorem Zgx (x:ByteArray):∀(l:List ByteArray) (i:Nat),Lib.idxFromS l x i= -1∨∃k:Nat,k<l.length∧Lib.idxFromS l x i=((i+k:Nat):Int)
 | [],i=> .inl rfl
 | z::l,i=>by
  simp only[Lib.idxFromS]
  split
  ·exact .inr ⟨0,by simp,by simp⟩
  ·rcases Zgx x l (i+1) with h | ⟨k,h1,h2⟩
   ·exact .inl h
   ·exact .inr ⟨k+1,by simp;omega,by rw[h2];congr 1;omega⟩
theorem ZoA (word:ByteArray):Lib.idxOfS Px.actWords word= -1∨Lib.idxOfS Px.actWords word=0∨Lib.idxOfS Px.actWords word=1∨Lib.idxOfS Px.actWords word=2∨Lib.idxOfS Px.actWords word=3∨Lib.idxOfS Px.actWords word=4∨Lib.idxOfS Px.actWords word=5:=by
 rcases Zgx word Px.actWords 0 with h | ⟨k,h1,h2⟩
 ·exact .inl h
 ·have h3:k<6:=h1
  have h4:Lib.idxOfS Px.actWords word=((0+k:Nat):Int):=h2
  omega
theorem Zmv [Laid P] {e:TypeId} {N:Nat} {f:FuncId} {fn:Func} (hf:P.funcs[f]? =some fn) (hname:(fn.name== "runtime.NumGoroutine")=false) (hb0:fn.body.isSome=true) (h:ActCalls P f):
  Sat P f ⟨.none,[.str, .slice e (.int .i64)], .prod (.prod (.int .i64) (.prod (.int .i64) (.prod (.int .i64) (.prod (.int .i64) (.int .i64))))) .bool,2, .ro,fun _ x=>Px.impl_actOf N x.1 x.2.1⟩:=by
 obtain ⟨c0,hc0⟩:=Option.isSome_iff_exists.1 hb0
 refine ⟨⟨fn,c0,hf,hname,hc0⟩,fun w T x gh b xs vs0 vs r hg ha hnd hlt hT _ hr=> ?_⟩
 have hg':vs0=[]:=hg
 subst hg'
 obtain ⟨g,vs',rfl,hh,h3⟩:=ha
 obtain ⟨g2,vs2,rfl,hh2,h4⟩:=h3
 have h4':vs2=[]:=h4
 subst h4'
 obtain ⟨h1,h2⟩:=Zby hr
 have hs:=of_decide_eq_true h1
 cases h2
 have hT':∀e k,T e k→k<w.heap.size:=fun e k hk=>(hT e k hk).1
 obtain ⟨A,cap,q1,q2,q3⟩:=Zo8 hT' hh2
 have hv:toV (.slice e (.int .i64)) (cells (.slice e (.int .i64)) xs.2.1 g2)= .slice A xs.2.1.length cap:=by simp [toV,Ty.agg,cells,q1]
 have hv1:toV .str (cells .str xs.1 g)= .string xs.1:=by simp [toV,Ty.agg,cells]
 rw[hv,hv1]
 refine (h xs.1 A cap xs.2.1 w hs q2 (fun ad hA j u hu=>⟨?_,Zmu q3 ad hA j u hu⟩)).mono fun e1 w' ⟨he,hw⟩=>⟨_,he, ?_⟩
 ·have hj:j<xs.2.1.length:=by have:=(List.getElem?_eq_some_iff.1 hu).1;simpa using this
  exact (q3 ad hA j hj).2.1
 ·exact ZbZ (g:= .pr (.pr .leaf (.pr .leaf (.pr .leaf (.pr .leaf .leaf)))) .leaf) hw rfl (fun _ _=>by simp [Holds,Gh.r,Gh.head]) (fun e k hk=>(hT e k hk).1)
end
end Go.Rx

