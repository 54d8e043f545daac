/- This text proves laws about a reflected evaluator of Go code, part 5 of 5; no condition beyond those each theorem states. -/
import Derived.Deep.LoopGhost
import Derived.Lib.SlicesS
import Derived.Lib.Walk
import Derived.WalkKit
import Derived.Test.YtndchhdnmnfnlaaGreatDoorRxd
set_option linter.unusedVariables false
set_option linter.unusedSimpArgs false
namespace Go.Rx
noncomputable section
open Go.RowKit
variable {P:Program}
namespace Px
end Px
open Go.Proofs in
open Go.Proofs in
def RowC (B:Nat) (w:World) (v:Value) (xs:List Int):Prop:=
 ∃A cap,v= .slice A xs.length cap∧(A=none→xs.length=0∧cap=0)∧∀ad,A=some ad→∀j,j<xs.length→ad.spot=none∧ad.block<B∧w.cell? ⟨ad.block,ad.off+j,none⟩=some (.int .i64 (xs.getD j 0))
theorem Zmx {B:Nat} {w:World} {A:Option Addr} {xs:List Int} (h3:∀ad,A=some ad→∀j,j<xs.length→ad.spot=none∧ad.block<B∧w.cell? ⟨ad.block,ad.off+j,none⟩=some (.int .i64 (xs.getD j 0))):∀ad,A=some ad→∀j u,(xs.map (Value.int .i64))[j]? =some u→w.cell? (ad.add j)=some u:=fun ad hA j u hu=>by
 have hj:j<xs.length:=by have:=(List.getElem?_eq_some_iff.1 hu).1;simpa using this
 obtain ⟨g0,_,g2⟩:=h3 ad hA j hj
 have hu':u= .int .i64 (xs.getD j 0):=by
  rw[List.getElem?_map,List.getElem?_eq_getElem hj] at hu
  simp only[Option.map_some,Option.some.injEq] at hu
  rw[←hu,List.getD_eq_getElem?_getD,List.getElem?_eq_getElem hj];rfl
 subst hu'
 obtain ⟨bk,o,sp⟩:=ad
 simp only at g0 g2
 subst g0
 by_cases hj0:j=0
 ·subst hj0;simpa [Addr.add] using g2
 ·simpa [Addr.add,hj0] using g2
theorem Zo3 {w:World} {T:TypeId→Nat→Prop} {e:TypeId} {xs:List Int} {g:Gh} (hT:∀e k,T e k→k<w.heap.size) (h:Holds w T (.slice e (.int .i64)) .ro xs g):RowC w.heap.size w g.head xs:=by
 simp only[Holds] at h
 obtain ⟨⟨A,cap,q1,q2,q3,q4,q5,q6⟩,_⟩:=h
 refine ⟨A,cap,q1,fun hA=>⟨?_,q4 hA⟩,fun ad hA j hj=> ?_⟩
 ·have:=q4 hA;omega
 ·have hx:xs≠[]:=by rintro rfl;simp at hj
  obtain ⟨a,ha,hTa⟩:=q5 hx
  have hs:=q3 hx ad hA
  rw[hA] at ha
  cases ha
  refine ⟨hs,hT e _ hTa, ?_⟩
  obtain ⟨bk,o,sp⟩:=ad
  simp only at hs
  subst hs
  have:=(q6 _ hA).elem (s:=1) rfl (fun i _=>rfl) j hj 0 (.int .i64 (xs.getD j 0)) (by simp [cells,Ty.dflt])
  by_cases hj0:j=0
  ·subst hj0;simpa [Addr.add] using this
  ·simpa [Addr.add,hj0] using this
end
end Go.Rx
namespace Go.Rx
noncomputable section
open Go.RowKit
variable {P:Program}
namespace Px
def actWords:List ByteArray:=[⟨#[112,101,114,105,111,100]⟩,⟨#[110,101,101,100]⟩,⟨#[111,114,100,101,114]⟩,⟨#[115,116,101,112]⟩,⟨#[114,101,112,108,97,110]⟩,⟨#[99,108,101,97,114]⟩]
def actAr (k:Int):Nat:=if k=0 then 4 else if k=1 then 2 else if k=2 then 2 else 0
def actOfV (word:ByteArray) (xs:List Int):(Int×Int×Int×Int×Int)×Bool:=
 if Lib.idxOfS actWords word= -1∨xs.length≠actAr (Lib.idxOfS actWords word) then ((0,0,0,0,0),false) else ((Lib.idxOfS actWords word+1,xs.getD 0 0,xs.getD 1 0,xs.getD 2 0,xs.getD 3 0),true)
def impl_actOf (N:Nat) (word:ByteArray) (xs:List Int):Option (((Int×Int×Int×Int×Int)×Bool)×Unit):=chk (decide (xs.length≤1000000))<| some (actOfV word xs,())
end Px
def actVal (k a b c d:Int) (ok:Bool):Value:= .tuple #[.agg #[.int .i64 k, .int .i64 a, .int .i64 b, .int .i64 c, .int .i64 d], .bool ok]
def actV (x:(Int×Int×Int×Int×Int)×Bool):Value:=actVal x.1.1 x.1.2.1 x.1.2.2.1 x.1.2.2.2.1 x.1.2.2.2.2 x.2
abbrev ActCalls (P:Program) (f:FuncId):Prop:=∀(word:ByteArray) (A:Option Addr) (c:Nat) (xs:List Int) (w:World),xs.length≤1000000→(A=none→xs.length=0∧c=0)→(∀ad,A=some ad→∀(j:Nat) u,(xs.map (Value.int .i64))[j]? =some u→ad.block<w.heap.size∧w.cell? (ad.add j)=some u)→
 Calls P f #[.string word, .slice A xs.length c] w fun e w'=>e= .returned (actV (Px.actOfV word xs))∧Below w.heap.size w w'
theorem Zgp (x:ByteArray):∀(l:List ByteArray) (i:Nat),Lib.idxFromS l x i= -1∨∃k:Nat,k<l.length∧Lib.idxFromS l x i=((i+k:Nat):Int)
 | [],i=> .inl rfl
 | z::l,i=>by
  simp only[Lib.idxFromS]
  split
  ·exact .inr ⟨0,by simp,by simp⟩
  ·rcases Zgp x l (i+1) with h | ⟨k,h1,h2⟩
   ·exact .inl h
   ·exact .inr ⟨k+1,by simp;omega,by rw[h2];congr 1;omega⟩
theorem Zov (word:ByteArray):Lib.idxOfS Px.actWords word= -1∨Lib.idxOfS Px.actWords word=0∨Lib.idxOfS Px.actWords word=1∨Lib.idxOfS Px.actWords word=2∨Lib.idxOfS Px.actWords word=3∨Lib.idxOfS Px.actWords word=4∨Lib.idxOfS Px.actWords word=5:=by
 rcases Zgp word Px.actWords 0 with h | ⟨k,h1,h2⟩
 ·exact .inl h
 ·have h3:k<6:=h1
  have h4:Lib.idxOfS Px.actWords word=((0+k:Nat):Int):=h2
  omega
theorem Zmy [Laid P] {e:TypeId} {N:Nat} {f:FuncId} {fn:Func} (hf:P.funcs[f]? =some fn) (hname:(fn.name== "runtime.NumGoroutine")=false) (hb0:fn.body.isSome=true) (h:ActCalls P f):
  Sat P f ⟨.none,[.str, .slice e (.int .i64)], .prod (.prod (.int .i64) (.prod (.int .i64) (.prod (.int .i64) (.prod (.int .i64) (.int .i64))))) .bool,2, .ro,fun _ x=>Px.impl_actOf N x.1 x.2.1⟩:=by
 obtain ⟨c0,hc0⟩:=Option.isSome_iff_exists.1 hb0
 refine ⟨⟨fn,c0,hf,hname,hc0⟩,fun w T x gh b xs vs0 vs r hg ha hnd hlt hT _ hr=> ?_⟩
 have hg':vs0=[]:=hg
 subst hg'
 obtain ⟨g,vs',rfl,hh,h3⟩:=ha
 obtain ⟨g2,vs2,rfl,hh2,h4⟩:=h3
 have h4':vs2=[]:=h4
 subst h4'
 obtain ⟨h1,h2⟩:=Zbt hr
 have hs:=of_decide_eq_true h1
 cases h2
 have hT':∀e k,T e k→k<w.heap.size:=fun e k hk=>(hT e k hk).1
 obtain ⟨A,cap,q1,q2,q3⟩:=Zo3 hT' hh2
 have hv:toV (.slice e (.int .i64)) (cells (.slice e (.int .i64)) xs.2.1 g2)= .slice A xs.2.1.length cap:=by simp [toV,Ty.agg,cells,q1]
 have hv1:toV .str (cells .str xs.1 g)= .string xs.1:=by simp [toV,Ty.agg,cells]
 rw[hv,hv1]
 refine (h xs.1 A cap xs.2.1 w hs q2 (fun ad hA j u hu=>⟨?_,Zmx q3 ad hA j u hu⟩)).mono fun e1 w' ⟨he,hw⟩=>⟨_,he, ?_⟩
 ·have hj:j<xs.2.1.length:=by have:=(List.getElem?_eq_some_iff.1 hu).1;simpa using this
  exact (q3 ad hA j hj).2.1
 ·exact ZbT (g:= .pr (.pr .leaf (.pr .leaf (.pr .leaf (.pr .leaf .leaf)))) .leaf) hw rfl (fun _ _=>by simp [Holds,Gh.r,Gh.head]) (fun e k hk=>(hT e k hk).1)
end
end Go.Rx

