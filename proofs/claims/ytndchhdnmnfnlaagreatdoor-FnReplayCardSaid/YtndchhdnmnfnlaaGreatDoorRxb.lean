/- This text proves laws about a reflected evaluator of Go code, part 2 of 5; no condition beyond those each theorem states. -/
import Derived.Conc.MuLone
import Derived.Laws.Slices
import Derived.Laws.StructEq
import Derived.Test.YtndchhdnmnfnlaaGreatDoorRxa
set_option linter.unusedVariables false
set_option linter.unusedSimpArgs false
namespace Go.Rx
noncomputable section
open Go.RowKit
variable {P:Program} {C:Ctx} {w0:World} {F0:List Nat} {T0:TypeId→Nat→Prop}
theorem ZpC {E:Env} {st:St} {a:Act} {w:World} {o:Oper} {x:Operand} {pl:Plan} (hS:Sim w0 F0 T0 E st a w) (ho:o.op= .move x) (hp:plan0 C st o=some pl):PlanDoes P w0 F0 T0 o st a w pl:=by
 unfold plan0 at hp;rw[ho] at hp;cases hp;exact Does.pure hS (v:=a.eval x) (by simp [execOp,ho]) (Zr hS x)
theorem Zqu {E:Env} {st:St} {a:Act} {w:World} {d:Nat} {e:TypeId} {u:Ty} (hS:Sim w0 F0 T0 E st a w) (hfit:Fits st) (hd:d<st.regs.length):
  ∃E',Sim w0 F0 T0 E' (({ r:= .vw d [],upd:=[(d,some ⟨false,false, .own u.zp, .slice e u,([]:List u.den)⟩)],kill:=[.all d] }:Eff).apply (some d) st) (a.put (some d) (.slice none 0 0)) w:=by
 obtain ⟨m1,k1⟩:=hS.mem.drop d;obtain ⟨m2,k2⟩:=m1.plain d (setB_same _ _ _) (.slice e u) (.own u.zp) ([]:List u.den) (.row (.slice none 0 0) fun _=> .leaf) (Zdb w _ e u u.zp) (by simp [foot,Gh.head,Value.ownBlock,catF])
 rw[ZO] at m2 k2;have k3:Kept w (Tch T0 E st.blk w) w (Tch T0 ⟨setG E.g d (.row (.slice none 0 0) fun _=> .leaf),E.base⟩ (setB st.blk d (some ⟨false,false, .own u.zp, .slice e u,([]:List u.den)⟩)) w):=fun i k hk=>⟨rfl,(k2 i k (k1 i k hk).2).2⟩
 refine ⟨_,hS.step (blk':=setB st.blk d (some ⟨false,false, .own u.zp, .slice e u,([]:List u.den)⟩)) (fun c o h=> ?_) (Zq _ _ _) m2 (Zm d _ k3 (fun i hi=>Zl _ _ hi) (fun _ _=>rfl)) ?_⟩
 ·simp at h;rw[hfit.len];omega
 ·exact ⟨⟨false,false, .own u.zp, .slice e u,([]:List u.den)⟩,⟨.slice e u, .own u.zp,([]:List u.den)⟩,setB_same _ _ _,Zp _ _ _,trivial,by simp [ghAt,toV,Ty.agg,cells,Gh.head]⟩
theorem ZmI {E:Env} {st:St} {a:Act} {w:World} {o:Oper} {x:Operand} {pl:Plan} (hS:Sim w0 F0 T0 E st a w) (hfit:Fits st) (hd:∀d,o.dst=some d→d<st.regs.length) (ho:o.op= .assign x) (hp:plan0 C st o=some pl):PlanDoes P w0 F0 T0 o st a w pl:=by
 unfold plan0 at hp;rw[ho] at hp;simp only at hp;split at hp
 case h_2=>cases hp
 rename_i d hdst;have hx:=Zr hS x;unfold assignPlan at hp;split at hp
 ·rename_i hreg
  rw[hreg] at hx;split at hp
  ·rename_i e u hty
   cases hp;have hx':a.eval x= .slice none 0 0:=hx;obtain ⟨E',h⟩:=Zqu (e:=e) (u:=u) hS hfit (hd d hdst);rw[←hdst] at h;exact Does.value (v:= .slice none 0 0) (by simp [execOp,ho,hx']) h
  ·cases hp
   exact Does.pure hS (v:=a.eval x) (by simp [execOp,ho]) hx
 ·cases hp
  exact Does.pure hS (v:=a.eval x) (by simp [execOp,ho]) hx
theorem ZpD {E:Env} {st:St} {a:Act} {w:World} {o:Oper} {c x y:Operand} {pl:Plan} (hS:Sim w0 F0 T0 E st a w) (ho:o.op= .pick c x y) (hp:plan0 C st o=some pl):PlanDoes P w0 F0 T0 o st a w pl:=by
 unfold plan0 at hp;rw[ho] at hp;simp only at hp;have hc:=Zr hS c;split at hp
 ·rename_i t hreg
  rw[hreg] at hc;obtain ⟨g,_,hc⟩:=hc;have hc':a.eval c= .bool t:=hc;cases t with
  | true=>cases hp;exact Does.pure hS (v:=a.eval x) (by simp [execOp,ho,hc',asBool]) (Zr hS x)
  | false=>cases hp;exact Does.pure hS (v:=a.eval y) (by simp [execOp,ho,hc',asBool]) (Zr hS y)
 ·cases hp
theorem ZaX {E:Env} {w:World} {T:TypeId→Nat→Prop} {blk:Nat→Option Blk} {k:IntKind} {x:Int} {v:Value} (h:RegOk E w T blk (.val (.int k) x) v):v= .int k x:=by
 obtain ⟨g,_,h⟩:=h;exact h
theorem Zeo {E:Env} {w:World} {T:TypeId→Nat→Prop} {blk:Nat→Option Blk} {x:Bool} {v:Value} (h:RegOk E w T blk (.val .bool x) v):v= .bool x:=by
 obtain ⟨g,_,h⟩:=h;exact h
theorem Zd1 {E:Env} {w:World} {T:TypeId→Nat→Prop} {blk:Nat→Option Blk} {x:Xo} {v:Value} (h:RegOk E w T blk (.val .str x) v):v= .string x:=by
 obtain ⟨g,_,h⟩:=h;exact h
theorem Zaj {E:Env} {w:World} {T:TypeId→Nat→Prop} {blk:Nat→Option Blk} (k:IntKind) (x:Int):RegOk E w T blk (.val (.int k) x) (.int k x):=⟨.leaf,trivial,rfl⟩
theorem ZaB {E:Env} {w:World} {T:TypeId→Nat→Prop} {blk:Nat→Option Blk} (x:Bool):RegOk E w T blk (.val .bool x) (.bool x):=⟨.leaf,trivial,rfl⟩
theorem Zin {E:Env} {w:World} {T:TypeId→Nat→Prop} {blk:Nat→Option Blk} (x:Xo):RegOk E w T blk (.val .str x) (.string x):=⟨.leaf,trivial,rfl⟩
theorem ZmJ (op:BinOp) (t:TypeId) (x y:Operand) (k k':IntKind) (a b:Int) (w:World):(eqGuard op t x y (.int k a) (.int k' b)).run P w= .ok () w:=by
 unfold eqGuard;split<;>rfl
theorem Zl2 (op:BinOp) (t:TypeId) (x y:Operand) (a b:Bool) (w:World):(eqGuard op t x y (.bool a) (.bool b)).run P w= .ok () w:=by
 unfold eqGuard;split<;>rfl
theorem ZmK (op:BinOp) (t:TypeId) (x y:Operand) (a b:Xo) (w:World):(eqGuard op t x y (.string a) (.string b)).run P w= .ok () w:=by
 unfold eqGuard;split<;>rfl
theorem shift_run (op:BinOp) (k yk:IntKind) (x y:Int) (w:World) (h:¬y<0) (hop:op= .shl∨op= .shr):
  (Op.shift op k x yk y).run P w= .ok (.int k (if op= .shl then ishl k x y else ishr k x y)) w:=by
 unfold Op.shift;rw[if_neg h];rcases hop with rfl | rfl
 ·simp [ishl]
 ·simp [ishr]
theorem Zjb (hT:TabOk P C) {E:Env} {w:World} {T:TypeId→Nat→Prop} {blk:Nat→Option Blk} {op:BinOp} {t:TypeId} {x y:Operand} {rx ry r:Reg} {vx vy:Value} {pre:Option Bool} (hx:RegOk E w T blk rx vx) (hy:RegOk E w T blk ry vy)
  (h:binReg (decide (C.ty t=some .bool)) op rx ry=some (pre,r)) (hpre:∀b,pre=some b→b=true):∃v,(do eqGuard op t x y vx vy;binOp op t vx vy:Sem Value).run P w= .ok v w∧RegOk E w T blk r v:=by
 unfold binReg at h;split at h
 ·rename_i k x' k' y'
  have ex:=ZaX hx;have ey:=ZaX hy;subst ex;subst ey;simp only[Sem.run_bind,ZmJ,Result.andThen_ok];split at h
  ·rename_i hop;subst hop
   cases h;have hp:=hpre _ rfl;simp only[ile,Xi] at hp;refine ⟨.int k (ishl k x' y'), ?_,Zaj _ _⟩;show (Op.shift .shl k x' k' y').run P w=_;rw[shift_run _ _ _ _ _ _ (by omega) (.inl rfl),if_pos rfl]
  ·split at h
   ·rename_i hop;subst hop
    cases h;have hp:=hpre _ rfl;simp only[ile,Xi] at hp;refine ⟨.int k (ishr k x' y'), ?_,Zaj _ _⟩;show (Op.shift .shr k x' k' y').run P w=_;rw[shift_run _ _ _ _ _ _ (by omega) (.inr rfl),if_neg (by simp)]
   ·split at h
    ·rename_i h1 h2 hk
     subst hk;cases op<;>simp only at h h1 h2
     case shl=>exact absurd trivial h1
     case shr=>exact absurd trivial h2
     case add=>cases h;exact ⟨_,by simp [binOp,Op.intArith];rfl,Zaj _ _⟩
     case sub=>cases h;exact ⟨_,by simp [binOp,Op.intArith];rfl,Zaj _ _⟩
     case mul=>cases h;exact ⟨_,by simp [binOp,Op.intArith];rfl,Zaj _ _⟩
     case quo=>
      cases h;have hp:=hpre _ rfl;simp only[ine,Bool.not_eq_true',decide_eq_false_iff_not] at hp;exact ⟨_,by simp [binOp,Op.intDiv,hp];rfl,Zaj _ _⟩
     case rem=>
      cases h;have hp:=hpre _ rfl;simp only[ine,Bool.not_eq_true',decide_eq_false_iff_not] at hp;exact ⟨_,by simp [binOp,Op.intDiv,hp];rfl,Zaj _ _⟩
     case and=>cases h;exact ⟨_,by simp [binOp,Op.intBits];rfl,Zaj _ _⟩
     case or=>cases h;exact ⟨_,by simp [binOp,Op.intBits];rfl,Zaj _ _⟩
     case xor=>cases h;exact ⟨_,by simp [binOp,Op.intBits];rfl,Zaj _ _⟩
     case andNot=>cases h;exact ⟨.int k (iandn k x' y'),by simp only[binOp,Op.intBits,ne_eq,not_true_eq_false,if_false];rfl,Zaj _ _⟩
     case eql=>cases h;exact ⟨.bool (ieq x' y'),by simp only[binOp,Op.intCmp,ne_eq,not_true_eq_false,if_false];rfl,ZaB _⟩
     case neq=>cases h;exact ⟨.bool (ine x' y'),by simp only[binOp,Op.intCmp,ne_eq,not_true_eq_false,if_false];rfl,ZaB _⟩
     case lss=>cases h;exact ⟨.bool (ilt x' y'),by simp only[binOp,Op.intCmp,ne_eq,not_true_eq_false,if_false];rfl,ZaB _⟩
     case leq=>cases h;exact ⟨.bool (ile x' y'),by simp only[binOp,Op.intCmp,ne_eq,not_true_eq_false,if_false];rfl,ZaB _⟩
     case gtr=>cases h;exact ⟨.bool (ilt y' x'),by simp only[binOp,Op.intCmp,ne_eq,not_true_eq_false,if_false];rfl,ZaB _⟩
     case geq=>cases h;exact ⟨.bool (ile y' x'),by simp only[binOp,Op.intCmp,ne_eq,not_true_eq_false,if_false];rfl,ZaB _⟩
    ·cases h
 ·rename_i x' y'
  have ex:=Zeo hx;have ey:=Zeo hy;subst ex;subst ey;simp only[Sem.run_bind,Zl2,Result.andThen_ok];split at h
  case isFalse=>cases h
  rename_i htb;have htb':C.ty t=some .bool:=by simpa using htb
  obtain ⟨ti,_,hty,hok,_⟩:=Zbu hT htb';have hd:=hok.desc;rw[hty] at hd;have hd':P.underlying t=some .bool:=hd;have heq:(Op.equal t (.bool x') (.bool y')).run P w= .ok (x'==y') w:=by
   unfold Op.equal Op.maxDepth;rw[Op.equalIn];simp [run_underlying hd']
  cases op<;>simp only at h
  case eql=>
   cases h;exact ⟨.bool (beq x' y'),by simp only[binOp,Sem.run_bind,heq,Result.andThen_ok];rfl,ZaB _⟩
  case neq=>
   cases h;exact ⟨.bool (!beq x' y'),by simp only[binOp,Sem.run_bind,heq,Result.andThen_ok];rfl,ZaB _⟩
  all_goals cases h
 ·rename_i x' y'
  have ex:=Zd1 hx;have ey:=Zd1 hy;subst ex;subst ey;simp only[Sem.run_bind,ZmK,Result.andThen_ok];cases op<;>simp only at h
  case add=>
   cases h;have hp:=hpre _ rfl;simp only[sfit,Xi] at hp;refine ⟨.string (scat x' y'), ?_,Zin _⟩;have:¬((x'.size+y'.size:Nat):Int)>IntKind.i64.max:=by simp only[IntKind.max,IntKind.signed,IntKind.bits];omega
   simp only[binOp,Op.stringOp];rw[if_neg this];rfl
  all_goals first | (cases h;exact ⟨.bool _,by simp only[binOp,Op.stringOp];rfl,ZaB _⟩) | cases h
 ·cases h
theorem Zq1 {E:Env} {st:St} {a:Act} {w:World} {o:Oper} {op:UnOp} {t:TypeId} {x:Operand} {pl:Plan} (hS:Sim w0 F0 T0 E st a w) (ho:o.op= .unOp op t x) (hp:plan0 C st o=some pl):PlanDoes P w0 F0 T0 o st a w pl:=by
 unfold plan0 at hp;rw[ho] at hp;simp only at hp;have hx:=Zr hS x;split at hp
 case h_2=>cases hp
 rename_i r hr;cases hp;unfold unReg at hr;split at hr
 ·rename_i k n hreg
  rw[hreg] at hx;have ex:=ZaX hx;split at hr
  ·cases hr;exact Does.pure hS (v:= .int k (isub k 0 n)) (by simp only[execOp,ho,ex,Op.unary,Op.intArith,Sem.run_bind];rfl) (Zaj _ _)
  ·cases hr;exact Does.pure hS (v:= .int k (inot k n)) (by simp only[execOp,ho,ex,Op.unary,Op.intBits,Sem.run_bind];rfl) (Zaj _ _)
  ·cases hr
 ·rename_i b hreg
  rw[hreg] at hx;have ex:=Zeo hx;split at hr
  ·cases hr;exact Does.pure hS (v:= .bool (!b)) (by simp [execOp,ho,ex,Op.unary]) (ZaB _)
  ·cases hr
 ·cases hr
theorem Zot {E:Env} {st:St} {a:Act} {w:World} {o:Oper} {s t:TypeId} {x:Operand} (hT:TabOk P C) (hS:Sim w0 F0 T0 E st a w) (ho:o.op= .convert s t x) {us ut:Ty} {r:Reg} (hs:C.ty s=some us) (ht:C.ty t=some ut) (hr:convReg ut (st.opd x)=some r):PlanDoes P w0 F0 T0 o st a w (.go { r:=r }):=by
 have hx:=Zr hS x;have hu:∃d,P.underlying s=some d:=by
  obtain ⟨ti,_,hty,hok,_⟩:=Zbu hT hs;have hd:=hok.desc;cases hti:ti.ty<;>rw[hti] at hd<;>simp only[DescOk] at hd
  case err=>obtain ⟨ms,hd⟩:=hd;exact ⟨_,hd⟩
  case slice=>exact ⟨_,hd.1⟩
  case arr=>obtain ⟨e,hd,_⟩:=hd;exact ⟨_,hd⟩
  case prod=>obtain ⟨e,hd,_⟩:=hd;exact ⟨_,hd⟩
  all_goals exact ⟨_,hd⟩
 obtain ⟨ds,hds⟩:=hu;obtain ⟨ti,_,hty,hok,_⟩:=Zbu hT ht;have hd:=hok.desc;rw[hty] at hd;unfold convReg at hr;split at hr
 ·rename_i k n hreg
  rw[hreg] at hx;have ex:=ZaX hx;split at hr
  ·rename_i k'
   cases hr;have hd':P.underlying t=some (.int k'):=hd;refine Does.pure hS (v:= .int k' (icv k' n)) ?_ (Zaj _ _);simp only[execOp,ho,ex,Sem.run_bind,convert,run_underlying hds,run_underlying hd',Result.andThen_ok];cases ds<;>rfl
  ·cases hr
 ·rename_i b hreg
  rw[hreg] at hx;have ex:=Zd1 hx;split at hr
  ·cases hr
   have hd':P.underlying t=some .string:=hd;refine Does.pure hS (v:= .string b) ?_ (Zin _);simp only[execOp,ho,ex,Sem.run_bind,convert,run_underlying hds,run_underlying hd',Result.andThen_ok];cases ds<;>rfl
  ·cases hr
 ·cases hr
end
end Go.Rx
namespace Go.Rx
noncomputable section
open Go.RowKit
variable {P:Program} {C:Ctx} {w0:World} {F0:List Nat} {T0:TypeId→Nat→Prop}
theorem Zkh {E:Env} {st:St} {a:Act} {w:World} {o:Oper} {x:Operand} {pl:Plan} (hS:Sim w0 F0 T0 E st a w) (ho:o.op= .nilCheck x) (hp:plan0 C st o=some pl):PlanDoes P w0 F0 T0 o st a w pl:=by
 unfold plan0 at hp;rw[ho] at hp;simp only at hp;have hx:=Zr hS x;split at hp
 ·rename_i b s hreg
  cases hp;rw[hreg] at hx;have hx':=hx;obtain ⟨k,y,_,_,_,_,hv⟩:=hx';exact Does.pure hS (v:=a.eval x) (by simp [execOp,ho,hv]) hx
 ·rename_i b s hreg
  cases hp;rw[hreg] at hx;have hx':=hx;obtain ⟨g,ad,hv,_⟩:=hx';exact Does.pure hS (v:=a.eval x) (by simp [execOp,ho,hv]) hx
 ·cases hp
theorem Zcp {E:Env} {blk:Nat→Option Blk} {w:World} (hm:Mem w0 F0 T0 E blk w) {b:Nat} {k:Blk} {s:Path} {y:Sub} (hb:blk b=some k) (hs:sub k.ty k.p k.x s=some y) (hr:inR k.ty k.x s) (hd:k.var=true∨deep k.ty s=true):
  MemAt w (addrOf k.ty (E.g b) s ⟨E.base b,0,none⟩) (cells y.ty y.x (ghAt k.ty (E.g b) s))∧(addrOf k.ty (E.g b) s ⟨E.base b,0,none⟩).spot=none∧(addrOf k.ty (E.g b) s ⟨E.base b,0,none⟩).block∈feet E blk b∧
   ∃cur e fr,w.heap[(addrOf k.ty (E.g b) s ⟨E.base b,0,none⟩).block]? =some (.cells cur e fr)∧(fr=(0,0)∨(y.ty.sz=1∧fr=(cur.size,cur.size+1)))∧(addrOf k.ty (E.g b) s ⟨E.base b,0,none⟩).off+y.ty.sz≤cur.size:=by
 have hbk:=hm.blks b k hb;have hroot:deep k.ty s=true∨MemAt w ⟨E.base b,0,none⟩ (cells k.ty k.x (E.g b)):=by
  rcases hd with hd | hd
  ·obtain ⟨e,he⟩:=hbk.var hd
   exact .inr fun j u hj=>by rw[ZcD (a:=⟨E.base b,0,none⟩) rfl he,Nat.zero_add];simpa using hj
  ·exact .inl hd
 have hpos:=ZaA k.ty k.p k.x (E.g b) s y ⟨E.base b,0,none⟩ hbk.holds rfl hroot hr hs;have hfeet:(addrOf k.ty (E.g b) s ⟨E.base b,0,none⟩).block∈feet E blk b:=by
  cases hdd:deep k.ty s with
  | true=>exact Zk hb (hpos.2.2.1 hdd)
  | false=>rw[(hpos.2.2.2 hdd).1];exact ZbD hb (by simpa [hdd] using hd)
 refine ⟨hpos.1,hpos.2.1,hfeet, ?_⟩;cases hdd:deep k.ty s with
 | false=>
  have hv:k.var=true:=by simpa [hdd] using hd
  obtain ⟨e,he⟩:=hbk.var hv;have hp4:=hpos.2.2.2 hdd;refine ⟨_,e,_,by rw[hp4.1];exact he, .inl rfl, ?_⟩
  simp only[List.size_toArray,Za]
  simpa using hp4.2.2
 | true=>exact deep_block k.ty k.p k.x (E.g b) s y ⟨E.base b,0,none⟩ hbk.holds hr hs hdd
where
 deep_block {w:World} {T:TypeId→Nat→Prop}:∀(t:Ty) (p:Perm) (x:t.den) (g:Gh) (s:Path) (y:Sub) (a:Addr),Holds w T t p x g→inR t x s→sub t p x s=some y→deep t s=true→
   ∃cur e fr,w.heap[(addrOf t g s a).block]? =some (.cells cur e fr)∧(fr=(0,0)∨(y.ty.sz=1∧fr=(cur.size,cur.size+1)))∧(addrOf t g s a).off+y.ty.sz≤cur.size
 | .prod ta tb,p,x,g, .fst::s,y,a,h,hr,hs,hd=>by
  simp only[Holds] at h;simp only[inR] at hr;simp only[sub] at hs;simp only[deep] at hd;simp only[addrOf];exact deep_block ta _ _ _ s y a h.1 hr hs hd
 | .prod ta tb,p,x,g, .snd::s,y,a,h,hr,hs,hd=>by
  simp only[Holds] at h;simp only[inR] at hr;simp only[sub] at hs;simp only[deep] at hd;simp only[addrOf];exact deep_block tb _ _ _ s y _ h.2 hr hs hd
 | .arr n t,p,xs,g, .idx i::s,y,a,h,hr,hs,hd=>by
  simp only[Holds] at h;simp only[inR] at hr;simp only[sub] at hs;simp only[deep] at hd;simp only[addrOf];exact deep_block t _ _ _ s y _ (h.2 i hr.1.1) hr.2 hs hd
 | .slice e t, .own q,xs,g, .idx i::s,y,a,h,hr,hs,hd=>by
  simp only[Holds] at h;simp only[inR] at hr;simp only[sub] at hs;simp only[addrOf];obtain ⟨k,cap,cur,hv,hb,hbase,hh,hc,hcm,hcs,hx⟩:=ZS h.1 (by omega);rw[hbase];cases hdd:deep t s with
  | true=>exact deep_block t _ _ _ s y _ (h.2 i hr.1) hr.2 hs hdd
  | false=>
   have hmi:MemAt w ((⟨k,0,none⟩:Addr).add (i*t.sz)) (cells t (xs.getD i t.dflt) (g.at i)):=hx.elem rfl (fun _ _=>Za _ _ _) i hr.1;have hp4:=(ZaA t _ _ _ s y _ (h.2 i hr.1) (ZP _ _ rfl) (.inr hmi) hr.2 hs).2.2.2 hdd;obtain ⟨fr,hfr,hh⟩:=hh;have hsz:t= .int .u8→y.ty.sz=1:=fun et=>by
    subst et
    match s,hs with
    | [],hs=>rw[Zp] at hs;cases hs;rfl
    | _::_,hs=>simp [sub] at hs
   refine ⟨cur,e,fr,by rw[hp4.1,Zs];exact hh,hfr.imp id (fun h=>⟨hsz h.1,h.2⟩), ?_⟩
   have h1:=hp4.2.2;rw[ZaN] at h1;have h2:(i+1)*t.sz≤cap*t.sz:=Nat.mul_le_mul_right _ (by omega);rw[Nat.add_mul] at h2;rw[hcs];simp at h1;omega
 | .slice e t, .hole z0 q,xs,g, .idx i::s,y,a,h,hr,hs,hd=>by
  simp only[Holds] at h;simp only[inR] at hr;simp only[sub] at hs;simp only[addrOf];obtain ⟨k,cap,cur,hv,hb,hbase,hh,hc,hcm,hcs,hx⟩:=ZS h.1 (by omega);rw[hbase];cases hdd:deep t s with
  | true=>exact deep_block t _ _ _ s y _ (h.2 i hr.1) hr.2 hs hdd
  | false=>
   have hmi:MemAt w ((⟨k,0,none⟩:Addr).add (i*t.sz)) (cells t (xs.getD i t.dflt) (g.at i)):=hx.elem rfl (fun _ _=>Za _ _ _) i hr.1;have hp4:=(ZaA t _ _ _ s y _ (h.2 i hr.1) (ZP _ _ rfl) (.inr hmi) hr.2 hs).2.2.2 hdd;obtain ⟨fr,hfr,hh⟩:=hh;have hsz:t= .int .u8→y.ty.sz=1:=fun et=>by
    subst et
    match s,hs with
    | [],hs=>rw[Zp] at hs;cases hs;rfl
    | _::_,hs=>simp [sub] at hs
   refine ⟨cur,e,fr,by rw[hp4.1,Zs];exact hh,hfr.imp id (fun h=>⟨hsz h.1,h.2⟩), ?_⟩
   have h1:=hp4.2.2;rw[ZaN] at h1;have h2:(i+1)*t.sz≤cap*t.sz:=Nat.mul_le_mul_right _ (by omega);rw[Nat.add_mul] at h2;rw[hcs];simp at h1;omega
 | .int _,_,_,_,_,_,_,_,_,_,hd | .bool,_,_,_,_,_,_,_,_,_,hd | .str,_,_,_,_,_,_,_,_,_,hd | .err,_,_,_,_,_,_,_,_,_,hd=>by simp [deep] at hd
 | .prod _ _,_,_,_,[],_,_,_,_,_,hd | .arr _ _,_,_,_,[],_,_,_,_,_,hd | .slice _ _,_,_,_,[],_,_,_,_,_,hd=>by simp [deep] at hd
 | .prod _ _,_,_,_, .idx _::_,_,_,_,_,hs,_ | .arr _ _,_,_,_, .fst::_,_,_,_,_,hs,_ | .arr _ _,_,_,_, .snd::_,_,_,_,_,hs,_=>by simp [sub] at hs
 | .slice _ _, .own _,_,_, .fst::_,_,_,_,_,hs,_ | .slice _ _, .own _,_,_, .snd::_,_,_,_,_,hs,_ | .slice _ _, .hole _ _,_,_, .fst::_,_,_,_,_,hs,_ | .slice _ _, .hole _ _,_,_, .snd::_,_,_,_,_,hs,_=>by simp [sub] at hs
 | .slice _ _, .ro,_,_,_::_,_,_,_,_,hs,_ | .slice _ _, .dead,_,_,_::_,_,_,_,_,hs,_ | .slice _ _, .pr _ _,_,_,_::_,_,_,_,_,hs,_=>by simp [sub] at hs
theorem Zki {E:Env} {blk:Nat→Option Blk} {w:World} (hm:Mem w0 F0 T0 E blk w) {b:Nat} {k:Blk} {s:Path} {y:Sub} (hb:blk b=some k) (hs:sub k.ty k.p k.x s=some y) (hr:inR k.ty k.x s):
  RegOk E w (Tch T0 E blk w) blk (if y.p.plain then .val y.ty y.x else .vw b s) (toV y.ty (cells y.ty y.x (ghAt k.ty (E.g b) s))):=by
 cases hpl:y.p.plain with
 | true=>exact ⟨_,Zgr (ZD _ _ _ _ _ _ (hm.blks b k hb).holds hr hs) hpl,rfl⟩
 | false=>exact ⟨k,y,hb,hs,hr,rfl⟩
theorem ZpE {E:Env} {st:St} {a:Act} {w:World} {o:Oper} {t:TypeId} {x:Operand} {pl:Plan} (hT:TabOk P C) (hS:Sim w0 F0 T0 E st a w) (ho:o.op= .load t x) (hp:plan0 C st o=some pl):PlanDoes P w0 F0 T0 o st a w pl:=by
 unfold plan0 at hp;rw[ho] at hp;simp only at hp;have hx:=Zr hS x;split at hp
 ·rename_i u z hreg
  rw[hreg] at hx;split at hp
  case isFalse=>cases hp
  rename_i hty;cases hp;obtain ⟨g,ad,hv,hsp,hh,hmem,_⟩:=hx;refine Does.pure hS (v:=toV u (cells u z g)) ?_ ⟨g,hh,rfl⟩;simp only[execOp,ho,hv,Instr.loadAt,Instr.sureAddr,Sem.run_bind,Sem.run_pure,Result.andThen_ok,ZcE hT hty hmem]
 ·rename_i b s hreg
  rw[hreg] at hx;obtain ⟨k,y,h1,h2,h3,h4,hv⟩:=hx;rw[h1] at hp;simp only at hp;rw[h2] at hp;simp only at hp;split at hp
  case isFalse=>cases hp
  rename_i hty;cases hp;have hmem:=Zcp hS.mem h1 h2 h3 h4;refine Does.pure hS ?_ (Zki hS.mem h1 h2 h3);simp only[execOp,ho,hv,Instr.loadAt,Instr.sureAddr,Sem.run_bind,Sem.run_pure,Result.andThen_ok,ZcE hT hty hmem.1]
 ·cases hp
theorem Zap:∀(t:Ty) (p:Perm) (x:t.den) (s q:Path) (y:Sub),sub t p x s=some y→sub t p x (s++q)=sub y.ty y.p y.x q
 | t,p,x,[],q,y,h=>by rw[Zp] at h;cases h;rfl
 | .prod a b,p,x, .fst::s,q,y,h=>by simp only[sub] at h;simp only[List.cons_append,sub];exact Zap a _ _ s q y h
 | .prod a b,p,x, .snd::s,q,y,h=>by simp only[sub] at h;simp only[List.cons_append,sub];exact Zap b _ _ s q y h
 | .arr n t,p,xs, .idx i::s,q,y,h=>by simp only[sub] at h;simp only[List.cons_append,sub];exact Zap t _ _ s q y h
 | .slice e t, .own o,xs, .idx i::s,q,y,h=>by simp only[sub] at h;simp only[List.cons_append,sub];exact Zap t _ _ s q y h
 | .slice e t, .hole z0 o,xs, .idx i::s,q,y,h=>by simp only[sub] at h;simp only[List.cons_append,sub];exact Zap t _ _ s q y h
 | .int _,_,_,_::_,_,_,hs | .bool,_,_,_::_,_,_,hs | .str,_,_,_::_,_,_,hs | .err,_,_,_::_,_,_,hs=>by simp [sub] at hs
 | .prod _ _,_,_, .idx _::_,_,_,hs | .arr _ _,_,_, .fst::_,_,_,hs | .arr _ _,_,_, .snd::_,_,_,hs=>by simp [sub] at hs
 | .slice _ _, .own _,_, .fst::_,_,_,hs | .slice _ _, .own _,_, .snd::_,_,_,hs | .slice _ _, .hole _ _,_, .fst::_,_,_,hs | .slice _ _, .hole _ _,_, .snd::_,_,_,hs=>by simp [sub] at hs
 | .slice _ _, .ro,_,_::_,_,_,hs | .slice _ _, .dead,_,_::_,_,_,hs | .slice _ _, .pr _ _,_,_::_,_,_,hs=>by simp [sub] at hs
theorem Zay:∀(t:Ty) (p:Perm) (x:t.den) (s q:Path) (y:Sub),sub t p x s=some y→inR t x s→inR y.ty y.x q→inR t x (s++q)
 | t,p,x,[],q,y,h,_,hq=>by rw[Zp] at h;cases h;exact hq
 | .prod a b,p,x, .fst::s,q,y,h,hr,hq=>by simp only[sub] at h;simp only[inR] at hr;simp only[List.cons_append,inR];exact Zay a _ _ s q y h hr hq
 | .prod a b,p,x, .snd::s,q,y,h,hr,hq=>by simp only[sub] at h;simp only[inR] at hr;simp only[List.cons_append,inR];exact Zay b _ _ s q y h hr hq
 | .arr n t,p,xs, .idx i::s,q,y,h,hr,hq=>by simp only[sub] at h;simp only[inR] at hr;simp only[List.cons_append,inR];exact ⟨hr.1,Zay t _ _ s q y h hr.2 hq⟩
 | .slice e t, .own o,xs, .idx i::s,q,y,h,hr,hq=>by simp only[sub] at h;simp only[inR] at hr;simp only[List.cons_append,inR];exact ⟨hr.1,Zay t _ _ s q y h hr.2 hq⟩
 | .slice e t, .hole z0 o,xs, .idx i::s,q,y,h,hr,hq=>by simp only[sub] at h;simp only[inR] at hr;simp only[List.cons_append,inR];exact ⟨hr.1,Zay t _ _ s q y h hr.2 hq⟩
 | .int _,_,_,_::_,_,_,hs,_,_ | .bool,_,_,_::_,_,_,hs,_,_ | .str,_,_,_::_,_,_,hs,_,_ | .err,_,_,_::_,_,_,hs,_,_=>by simp [sub] at hs
 | .prod _ _,_,_, .idx _::_,_,_,hs,_,_ | .arr _ _,_,_, .fst::_,_,_,hs,_,_ | .arr _ _,_,_, .snd::_,_,_,hs,_,_=>by simp [sub] at hs
 | .slice _ _, .own _,_, .fst::_,_,_,hs,_,_ | .slice _ _, .own _,_, .snd::_,_,_,hs,_,_ | .slice _ _, .hole _ _,_, .fst::_,_,_,hs,_,_ | .slice _ _, .hole _ _,_, .snd::_,_,_,hs,_,_=>by simp [sub] at hs
 | .slice _ _, .ro,_,_::_,_,_,hs,_,_ | .slice _ _, .dead,_,_::_,_,_,hs,_,_ | .slice _ _, .pr _ _,_,_::_,_,_,hs,_,_=>by simp [sub] at hs
theorem Zak:∀(t:Ty) (p:Perm) (x:t.den) (g:Gh) (s q:Path) (y:Sub) (a:Addr),sub t p x s=some y→addrOf t g (s++q) a=addrOf y.ty (ghAt t g s) q (addrOf t g s a)∧ghAt t g (s++q)=ghAt y.ty (ghAt t g s) q∧(deep t s=true→deep t (s++q)=true)∧(deep y.ty q=true→deep t (s++q)=true)
 | t,p,x,g,[],q,y,a,h=>by
  rw[Zp] at h;cases h;have h1:addrOf t g [] a=a:=by cases t<;>rfl
  have h2:ghAt t g []=g:=by cases t<;>rfl
  have h3:deep t []=false:=by cases t<;>rfl
  rw[h1,h2,h3];exact ⟨rfl,rfl,by simp,id⟩
 | .prod ta tb,p,x,g, .fst::s,q,y,a,h=>by simp only[sub] at h;simp only[List.cons_append,addrOf,ghAt,deep];exact Zak ta _ _ _ s q y a h
 | .prod ta tb,p,x,g, .snd::s,q,y,a,h=>by simp only[sub] at h;simp only[List.cons_append,addrOf,ghAt,deep];exact Zak tb _ _ _ s q y _ h
 | .arr n t,p,xs,g, .idx i::s,q,y,a,h=>by simp only[sub] at h;simp only[List.cons_append,addrOf,ghAt,deep];exact Zak t _ _ _ s q y _ h
 | .slice e t, .own o,xs,g, .idx i::s,q,y,a,h=>by
  simp only[sub] at h;simp only[List.cons_append,addrOf,ghAt,deep];obtain ⟨h1,h2,_,_⟩:=Zak t _ _ (g.at i) s q y ((Value.base g.head).add (i*t.sz)) h;exact ⟨h1,h2,id,fun _=>trivial⟩
 | .slice e t, .hole z0 o,xs,g, .idx i::s,q,y,a,h=>by
  simp only[sub] at h;simp only[List.cons_append,addrOf,ghAt,deep];obtain ⟨h1,h2,_,_⟩:=Zak t _ _ (g.at i) s q y ((Value.base g.head).add (i*t.sz)) h;exact ⟨h1,h2,id,fun _=>trivial⟩
 | .int _,_,_,_,_::_,_,_,_,hs | .bool,_,_,_,_::_,_,_,_,hs | .str,_,_,_,_::_,_,_,_,hs | .err,_,_,_,_::_,_,_,_,hs=>by simp [sub] at hs
 | .prod _ _,_,_,_, .idx _::_,_,_,_,hs | .arr _ _,_,_,_, .fst::_,_,_,_,hs | .arr _ _,_,_,_, .snd::_,_,_,_,hs=>by simp [sub] at hs
 | .slice _ _, .own _,_,_, .fst::_,_,_,_,hs | .slice _ _, .own _,_,_, .snd::_,_,_,_,hs | .slice _ _, .hole _ _,_,_, .fst::_,_,_,_,hs | .slice _ _, .hole _ _,_,_, .snd::_,_,_,_,hs=>by simp [sub] at hs
 | .slice _ _, .ro,_,_,_::_,_,_,_,hs | .slice _ _, .dead,_,_,_::_,_,_,_,hs | .slice _ _, .pr _ _,_,_,_::_,_,_,_,hs=>by simp [sub] at hs
theorem ZC:∀n f,hasIdx (fieldPath n f)=false
 | 0,_ | 1,_=>rfl
 | _+2,0=>rfl
 | n+2,f+1=>by simp only[fieldPath,hasIdx];exact ZC (n+1) f
theorem ZcG:∀(t:Ty) (p:Perm) (x:t.den) (g:Gh) (s:Path) (y:Sub) (a:Addr),hasIdx s=false→sub t p x s=some y→a.spot=none→addrOf t g s a=a.add (offOf t s)
 | t,p,x,g,[],y,a,_,_,_=>by
  have:addrOf t g [] a=a:=by cases t<;>rfl
  have h2:offOf t []=0:=by cases t<;>rfl
  rw[this,h2];simp [Addr.add]
 | .prod ta tb,p,x,g, .fst::s,y,a,hi,hs,hsp=>by simp only[hasIdx] at hi;simp only[sub] at hs;simp only[addrOf,offOf];exact ZcG ta _ _ _ s y a hi hs hsp
 | .prod ta tb,p,x,g, .snd::s,y,a,hi,hs,hsp=>by
  simp only[hasIdx] at hi;simp only[sub] at hs;simp only[addrOf,offOf];rw[ZcG tb _ _ _ s y _ hi hs (ZP _ _ hsp),Ze7 _ _ _ hsp]
 | t,_,_,_, .idx _::_,_,_,hi,_,_=>by simp [hasIdx] at hi
 | .int _,_,_,_, .fst::_,_,_,_,hs,_ | .bool,_,_,_, .fst::_,_,_,_,hs,_ | .str,_,_,_, .fst::_,_,_,_,hs,_ | .err,_,_,_, .fst::_,_,_,_,hs,_=>by simp [sub] at hs
 | .int _,_,_,_, .snd::_,_,_,_,hs,_ | .bool,_,_,_, .snd::_,_,_,_,hs,_ | .str,_,_,_, .snd::_,_,_,_,hs,_ | .err,_,_,_, .snd::_,_,_,_,hs,_=>by simp [sub] at hs
 | .arr _ _,_,_,_, .fst::_,_,_,_,hs,_ | .arr _ _,_,_,_, .snd::_,_,_,_,hs,_=>by simp [sub] at hs
 | .slice _ _,p,_,_, .fst::_,_,_,_,hs,_ | .slice _ _,p,_,_, .snd::_,_,_,_,hs,_=>by cases p<;>simp [sub] at hs
theorem Zd2:∀(t:Ty) (p:Perm) (x:t.den) (s:Path) (u:Ty),hasIdx s=false→tyAt t s=some u→∃y,sub t p x s=some y∧y.ty=u
 | t,p,x,[],u,_,h=>by
  have:tyAt t []=some t:=by cases t<;>rfl
  rw[this] at h;cases h;exact ⟨_,Zp _ _ _,rfl⟩
 | .prod a b,p,x, .fst::s,u,hi,h=>by simp only[hasIdx] at hi;simp only[tyAt] at h;simp only[sub];exact Zd2 a _ _ s u hi h
 | .prod a b,p,x, .snd::s,u,hi,h=>by simp only[hasIdx] at hi;simp only[tyAt] at h;simp only[sub];exact Zd2 b _ _ s u hi h
 | t,_,_, .idx _::_,_,hi,_=>by simp [hasIdx] at hi
 | .int _,_,_, .fst::_,_,_,h | .bool,_,_, .fst::_,_,_,h | .str,_,_, .fst::_,_,_,h | .err,_,_, .fst::_,_,_,h | .arr _ _,_,_, .fst::_,_,_,h | .slice _ _,_,_, .fst::_,_,_,h=>by simp [tyAt] at h
 | .int _,_,_, .snd::_,_,_,h | .bool,_,_, .snd::_,_,_,h | .str,_,_, .snd::_,_,_,h | .err,_,_, .snd::_,_,_,h | .arr _ _,_,_, .snd::_,_,_,h | .slice _ _,_,_, .snd::_,_,_,h=>by simp [tyAt] at h
theorem ZkZ (hT:TabOk P C) {t:TypeId} {a b:Ty} {f:Nat} {u:Ty} (ht:C.ty t=some (.prod a b)) (hu:tyAt (.prod a b) (fieldPath (C.nf t) f)=some u) (hf:f<C.nf t):
  ∃(fs:Array Field) (fl:Field),P.underlying t=some (.struct fs)∧fs[f]? =some fl∧C.ty fl.type=some u∧fl.offset=offOf (.prod a b) (fieldPath (C.nf t) f):=by
 obtain ⟨ti,_,hty,hok,hnf,_⟩:=Zbu hT ht;have hd:=hok.desc;rw[hty] at hd;obtain ⟨fs,h1,_,h3⟩:=hd;rw[hnf] at hu hf ⊢;obtain ⟨fl,u',g1,g2,g3,g4⟩:=h3 f hf;rw[hu] at g2;cases g2;exact ⟨fs,fl,h1,g1,g3,g4⟩
theorem Zgv (hT:TabOk P C) {t:TypeId} {a b:Ty} {f:Nat} {u:Ty} (ht:C.ty t=some (.prod a b)) (hu:tyAt (.prod a b) (fieldPath (C.nf t) f)=some u) (hf:f<C.nf t) (w:World) (ad:Addr):
  (Instr.fieldAt t (.pointer (some ad)) f).run P w= .ok (.pointer (some (ad.add (offOf (.prod a b) (fieldPath (C.nf t) f))))) w:=by
 obtain ⟨fs,fl,h1,h2,h3,h4⟩:=ZkZ hT ht hu hf;have hpos:=ZdQ hT h3;have hne:¬u.sz=0:=by omega
 simp [Instr.fieldAt,run_underlying h1,h2,Instr.sureAddr,fieldPlace,ZT hT h3,hne,h4]
theorem Zk0:∀(t:Ty) (x:t.den) (s:Path) (y:Sub),hasIdx s=false→sub t .ro x s=some y→y.p= .ro
 | t,x,[],y,_,h=>by rw[Zp] at h;cases h;rfl
 | .prod a b,x, .fst::s,y,hi,h=>by simp only[hasIdx] at hi;simp only[sub] at h;exact Zk0 a _ s y hi h
 | .prod a b,x, .snd::s,y,hi,h=>by simp only[hasIdx] at hi;simp only[sub] at h;exact Zk0 b _ s y hi h
 | t,_, .idx _::_,_,hi,_=>by simp [hasIdx] at hi
 | .int _,_, .fst::_,_,_,hs | .bool,_, .fst::_,_,_,hs | .str,_, .fst::_,_,_,hs | .err,_, .fst::_,_,_,hs | .arr _ _,_, .fst::_,_,_,hs | .slice _ _,_, .fst::_,_,_,hs=>by simp [sub] at hs
 | .int _,_, .snd::_,_,_,hs | .bool,_, .snd::_,_,_,hs | .str,_, .snd::_,_,_,hs | .err,_, .snd::_,_,_,hs | .arr _ _,_, .snd::_,_,_,hs | .slice _ _,_, .snd::_,_,_,hs=>by simp [sub] at hs
theorem Zjc {E:Env} {st:St} {a:Act} {w:World} {o:Oper} {t:TypeId} {x:Operand} {f:Nat} {pl:Plan} (hT:TabOk P C) (hS:Sim w0 F0 T0 E st a w) (ho:o.op= .fieldAddr t x f) (hp:plan0 C st o=some pl):PlanDoes P w0 F0 T0 o st a w pl:=by
 unfold plan0 at hp;rw[ho] at hp;simp only at hp;have hx:=Zr hS x;split at hp
 ·rename_i b s hreg
  rw[hreg] at hx;obtain ⟨k,y,h1,h2,h3,h4,hv⟩:=hx;rw[h1] at hp;simp only at hp;rw[h2] at hp;simp only at hp;split at hp
  case isFalse=>cases hp
  rename_i hty;split at hp
  case h_2=>cases hp
  rename_i u hu;cases hp;obtain ⟨a1,b1,hprod,hf⟩:=Zdx hty.2;obtain ⟨yt,yp,yx⟩:=y;simp only at hprod hty hu;subst hprod;obtain ⟨z,hz,hzt⟩:=Zd2 _ yp yx _ _ (ZC _ _) hu;have hin:=Zba _ _ _ _ _ (ZC _ _) hz;have hsp:=(Zcp hS.mem h1 h2 h3 h4).2.1;obtain ⟨g1,_,g3,_⟩:=Zak k.ty k.p k.x (E.g b) s (fieldPath (C.nf t) f) _ ⟨E.base b,0,none⟩ h2;refine Does.pure hS (v:= .pointer (some (addrOf k.ty (E.g b) (s++fieldPath (C.nf t) f) ⟨E.base b,0,none⟩))) ?_ ⟨k,z,h1, ?_,Zay _ _ _ _ _ _ h2 h3 hin,h4.imp id g3,rfl⟩
  ·simp only[execOp,ho,hv,Sem.run_bind,Zgv hT hty.1 hu hf,Result.andThen_ok,Sem.run_pure]
   rw[g1,ZcG _ _ _ _ _ _ _ (ZC _ _) hz hsp]
  ·rw[Zap _ _ _ _ _ _ h2];exact hz
 ·rename_i u z hreg
  rw[hreg] at hx;split at hp
  case isFalse=>cases hp
  rename_i hty;split at hp
  case h_2=>cases hp
  rename_i y hy;cases hp;obtain ⟨a1,b1,rfl,hf⟩:=Zdx hty.2;obtain ⟨g,ad,hv,hsp,hh,hmem,hTb⟩:=hx;have hi:=ZC (C.nf t) f;have hin:=Zba _ _ _ _ _ hi hy;have hu:=Zai _ _ _ _ _ hy;have hm2:=ZaA _ .ro z g _ y ad hh hsp (.inr hmem) hin hy;have hst:=ZcG _ .ro z g _ y ad hi hy hsp;rw[hst] at hm2;have hyp:Holds w (Tch T0 E st.blk w) y.ty .ro y.x (ghAt (.prod a1 b1) g (fieldPath (C.nf t) f)):=by
   have:=ZD _ _ _ _ _ _ hh hin hy
   rwa [Zk0 _ _ _ _ hi hy] at this
  refine Does.pure hS (v:= .pointer (some (ad.add (offOf (.prod a1 b1) (fieldPath (C.nf t) f))))) ?_ ⟨_,_,rfl,hm2.2.1,hyp,hm2.1,by rw[Zs];exact hTb⟩
  simp only[execOp,ho,hv,Sem.run_bind,Zgv hT hty.1 hu hf,Result.andThen_ok,Sem.run_pure]
 ·cases hp
end
end Go.Rx
namespace Go.Rx
noncomputable section
open Go.RowKit
variable {P:Program} {C:Ctx} {w0:World} {F0:List Nat} {T0:TypeId→Nat→Prop}
theorem Zdc:∀(t:Ty) (p:Perm) (x:t.den) (g:Gh) (s:Path) (y:Sub),hasIdx s=false→sub t p x s=some y→
  ∀j,j<y.ty.sz→(cells y.ty y.x (ghAt t g s))[j]? =(cells t x g)[offOf t s+j]? ∧offOf t s+y.ty.sz≤t.sz
 | t,p,x,g,[],y,_,h,j,hj=>by
  rw[Zp] at h;cases h;have h2:ghAt t g []=g:=by cases t<;>rfl
  have h3:offOf t []=0:=by cases t<;>rfl
  rw[h2,h3];simp
 | .prod a b,p,x,g, .fst::s,y,hi,h,j,hj=>by
  simp only[hasIdx] at hi;simp only[sub] at h;obtain ⟨h1,h2⟩:=Zdc a _ _ g.l s y hi h j hj;simp only[ghAt,offOf,cells,Ty.sz];refine ⟨?_,by omega⟩;rw[h1,List.getElem?_append_left (by rw[Za];omega)]
 | .prod a b,p,x,g, .snd::s,y,hi,h,j,hj=>by
  simp only[hasIdx] at hi;simp only[sub] at h;obtain ⟨h1,h2⟩:=Zdc b _ _ g.r s y hi h j hj;simp only[ghAt,offOf,cells,Ty.sz];refine ⟨?_,by omega⟩;rw[h1,List.getElem?_append_right (by rw[Za];omega),Za]
  congr 1;omega
 | t,_,_,_, .idx _::_,_,hi,_,_,_=>by simp [hasIdx] at hi
 | .int _,_,_,_, .fst::_,_,_,hs,_,_ | .bool,_,_,_, .fst::_,_,_,hs,_,_ | .str,_,_,_, .fst::_,_,_,hs,_,_ | .err,_,_,_, .fst::_,_,_,hs,_,_=>by simp [sub] at hs
 | .int _,_,_,_, .snd::_,_,_,hs,_,_ | .bool,_,_,_, .snd::_,_,_,hs,_,_ | .str,_,_,_, .snd::_,_,_,hs,_,_ | .err,_,_,_, .snd::_,_,_,hs,_,_=>by simp [sub] at hs
 | .arr _ _,_,_,_, .fst::_,_,_,hs,_,_ | .arr _ _,_,_,_, .snd::_,_,_,hs,_,_=>by simp [sub] at hs
 | .slice _ _,p,_,_, .fst::_,_,_,hs,_,_ | .slice _ _,p,_,_, .snd::_,_,_,hs,_,_=>by cases p<;>simp [sub] at hs
theorem Zf7 (hT:TabOk P C) {t:TypeId} {u:Ty} (ht:C.ty t=some u) (w:World) (cs:List Value) (off:Nat) (ds:List Value) (hl:ds.length=u.sz) (h:∀j,j<u.sz→ds[j]? =cs[off+j]?):
  (part t cs.toArray off).run P w= .ok (toV u ds) w:=by
 have hpos:=ZdQ hT ht;unfold part;simp only[Sem.run_bind,Zja hT ht,Result.andThen_ok];cases hag:u.agg with
 | true=>
  simp only[if_true,Sem.run_bind,ZT hT ht,Result.andThen_ok,Sem.run_pure,toV,hag]
  congr 2
  apply Array.ext_getElem?;intro j;rw[List.extract_toArray];simp only[List.getElem?_toArray,List.extract_eq_take_drop,List.getElem?_take,List.getElem?_drop];by_cases hj:j<u.sz
  ·rw[if_pos (by omega),h j hj]
  ·rw[if_neg (by omega),List.getElem?_eq_none (by omega)]
 | false=>
  have h1:u.sz=1:=by cases u<;>simp_all [Ty.agg,Ty.sz]
  rw[h1] at hl;obtain ⟨c,rfl⟩:=List.length_eq_one_iff.1 hl;have:=h 0 (by omega);simp only[Nat.add_zero,List.getElem?_cons_zero] at this;simp [toV,hag,←this]
theorem Zjd (hT:TabOk P C) {t:TypeId} {a b:Ty} {f:Nat} {y:Sub} {p:Perm} {x:(Ty.prod a b).den} {g:Gh} (ht:C.ty t=some (.prod a b)) (hy:sub (.prod a b) p x (fieldPath (C.nf t) f)=some y) (hf:f<C.nf t) (w:World):
  (Instr.field t (toV (.prod a b) (cells (.prod a b) x g)) f).run P w= .ok (toV y.ty (cells y.ty y.x (ghAt (.prod a b) g (fieldPath (C.nf t) f)))) w:=by
 have hi:=ZC (C.nf t) f;obtain ⟨fs,fl,h1,h2,h3,h4⟩:=ZkZ hT ht (Zai _ _ _ _ _ hy) hf;have hpart:=Zf7 hT h3 w (cells (.prod a b) x g) fl.offset (cells y.ty y.x (ghAt (.prod a b) g (fieldPath (C.nf t) f))) (Za _ _ _) (fun j hj=>by rw[h4];exact (Zdc _ _ _ _ _ _ hi hy j hj).1)
 simp [Instr.field,run_underlying h1,h2,toV,Ty.agg,asAgg]
 simpa [toV,Ty.agg] using hpart
theorem Zou {E:Env} {st:St} {a:Act} {w:World} {o:Oper} {t:TypeId} {x:Operand} {f:Nat} {pl:Plan} (hT:TabOk P C) (hS:Sim w0 F0 T0 E st a w) (ho:o.op= .field t x f) (hp:plan0 C st o=some pl):PlanDoes P w0 F0 T0 o st a w pl:=by
 unfold plan0 at hp;rw[ho] at hp;simp only at hp;have hx:=Zr hS x;have hi:=ZC (C.nf t) f;split at hp
 ·rename_i u z hreg
  rw[hreg] at hx;split at hp
  case isFalse=>cases hp
  rename_i hty;split at hp
  case h_2=>cases hp
  rename_i y hy;cases hp;obtain ⟨a1,b1,rfl,hf⟩:=Zdx hty.2;obtain ⟨g,hh,hv⟩:=hx;have hin:=Zba _ _ _ _ _ hi hy;have hh2:=ZD _ _ _ _ _ _ hh hin hy;rw[Zk0 _ _ _ _ hi hy] at hh2;refine Does.pure hS ?_ ⟨_,hh2,rfl⟩;simp only[execOp,ho,hv,Sem.run_bind,Zjd hT hty.1 hy hf,Result.andThen_ok,Sem.run_pure]
 ·rename_i b s hreg
  rw[hreg] at hx;obtain ⟨k,y0,h1,h2,h3,hv⟩:=hx;rw[h1] at hp;simp only at hp;split at hp
  case h_2=>cases hp
  rename_i y hy;rw[h2] at hp;simp only at hp;split at hp
  case isFalse=>cases hp
  rename_i hty;cases hp;obtain ⟨a1,b1,hprod,hf⟩:=Zdx hty.2;obtain ⟨yt,yp,yx⟩:=y0;simp only at hprod hty hv;subst hprod;rw[Zap _ _ _ _ _ _ h2] at hy;have hin:=Zba _ _ _ _ _ hi hy;have hr:=Zay _ _ _ _ _ _ h2 h3 hin;obtain ⟨_,g2,_⟩:=Zak k.ty k.p k.x (E.g b) s (fieldPath (C.nf t) f) _ default h2;have hrd:=Zki hS.mem h1 (by rw[Zap _ _ _ _ _ _ h2];exact hy) hr
  rw[g2] at hrd;refine Does.pure hS ?_ hrd;simp only[execOp,ho,hv,Sem.run_bind,Zjd hT hty.1 hy hf,Result.andThen_ok,Sem.run_pure]
 ·cases hp
theorem Zd3 {i:Int} {n:Nat} (h:inB i n=true):0≤i∧i<n∧i.toNat<n:=by
 simp only[inB,Xh,Xi] at h;omega
theorem Z2 (hT:TabOk P C) {t e:TypeId} {u:Ty} (ht:C.ty t=some (.slice e u)):P.underlying t=some (.slice e)∧C.ty e=some u:=by
 obtain ⟨ti,_,hty,hok,_⟩:=Zbu hT ht;have hd:=hok.desc
 rwa [hty] at hd
theorem Zf8 (hT:TabOk P C) {t:TypeId} {n:Nat} {u:Ty} (ht:C.ty t=some (.arr n u)):∃e,P.underlying t=some (.array n e)∧C.ty e=some u:=by
 obtain ⟨ti,_,hty,hok,_⟩:=Zbu hT ht;have hd:=hok.desc
 rwa [hty] at hd
theorem ZaD (u:Ty) (x:u.den):inR u x []:=by cases u<;>trivial
theorem Zje {E:Env} {st:St} {a:Act} {w:World} {o:Oper} {t:TypeId} {x ix:Operand} {pl:Plan} (hT:TabOk P C) (hS:Sim w0 F0 T0 E st a w) (ho:o.op= .indexAddr t x ix) (hp:plan0 C st o=some pl):PlanDoes P w0 F0 T0 o st a w pl:=by
 unfold plan0 at hp;rw[ho] at hp;simp only at hp;have hx:=Zr hS x;have hix:=Zr hS ix;split at hp
 case h_2=>cases hp
 rename_i ki i hri;rw[hri] at hix;have ei:=ZaX hix;split at hp
 ·rename_i e u xs hreg
  rw[hreg] at hx;split at hp
  case isFalse=>cases hp
  rename_i hty;cases hp;intro hb;obtain ⟨b0,b1,b2⟩:=Zd3 hb;obtain ⟨g,hh,hv⟩:=hx;simp only[Holds] at hh;obtain ⟨⟨A,cap,g1,g2,g3,_,g4,g5⟩,g6⟩:=hh;have hne:xs≠[]:=by rintro rfl;simp at b2
  obtain ⟨ad,rfl,hTb⟩:=g4 hne;obtain ⟨hd1,hd2⟩:=Z2 hT hty;have hv':a.eval x= .slice (some ad) xs.length cap:=by rw[hv];simp [toV,Ty.agg,cells,g1]
  have hmem:=(g5 ad rfl).elem (g3 hne ad rfl) (fun _ _=>Za _ _ _) i.toNat b2;refine Does.pure hS (v:= .pointer (some (ad.add (i.toNat*u.sz)))) ?_ ⟨g.at i.toNat,_,rfl,ZP _ _ (g3 hne ad rfl),g6 _ b2,hmem,_,by rw[Zs];exact hTb⟩
  simp [execOp,ho,hv',ei,Instr.indexAt,asIntOf,run_underlying hd1,ZT hT hd2,b0,b1]
 ·rename_i b s hreg
  rw[hreg] at hx;obtain ⟨k,y,h1,h2,h3,hv⟩:=hx;rw[h1] at hp;simp only at hp;rw[h2] at hp;obtain ⟨yt,yp,yx⟩:=y;simp only at hp hv;split at hp
  ·rename_i e u q xs hsub
   simp only[Option.some.injEq,Sub.mk.injEq] at hsub;obtain ⟨rfl,rfl,hsub⟩:=hsub;cases hsub;split at hp
   case isFalse=>cases hp
   rename_i hty;cases hp;intro hb;obtain ⟨b0,b1,b2⟩:=Zd3 hb;have hh:=ZD _ _ _ _ _ _ (hS.mem.blks b k h1).holds h3 h2;simp only[Holds] at hh;obtain ⟨kk,cap,cur,gv,_,gb,_⟩:=ZS hh.1 (by omega);obtain ⟨hd1,hd2⟩:=Z2 hT hty;have hv':a.eval x= .slice (some ⟨kk,0,none⟩) xs.length cap:=by rw[hv];simp [toV,Ty.agg,cells,gv]
   obtain ⟨g1,_,_,g3⟩:=Zak k.ty k.p k.x (E.g b) s [.idx i.toNat] _ ⟨E.base b,0,none⟩ h2;refine Does.pure hS (v:= .pointer (some ((⟨kk,0,none⟩:Addr).add (i.toNat*u.sz)))) ?_ ⟨k,⟨u,q,xs.getD i.toNat u.dflt⟩,h1, ?_, ?_, .inr (g3 rfl), ?_⟩
   ·simp [execOp,ho,hv',ei,Instr.indexAt,asIntOf,run_underlying hd1,ZT hT hd2,b0,b1]
   ·rw[Zap _ _ _ _ _ _ h2];simp only[sub]
   ·exact Zay _ _ _ _ _ _ h2 h3 ⟨b2,ZaD _ _⟩
   ·rw[g1];simp only[addrOf,gb]
  ·rename_i e u z0 q xs hsub
   simp only[Option.some.injEq,Sub.mk.injEq] at hsub;obtain ⟨rfl,rfl,hsub⟩:=hsub;cases hsub;split at hp
   case isFalse=>cases hp
   rename_i hty;cases hp;intro hb;obtain ⟨b0,b1,b2⟩:=Zd3 hb;have hh:=ZD _ _ _ _ _ _ (hS.mem.blks b k h1).holds h3 h2;simp only[Holds] at hh;obtain ⟨kk,cap,cur,gv,_,gb,_⟩:=ZS hh.1 (by omega);obtain ⟨hd1,hd2⟩:=Z2 hT hty;have hv':a.eval x= .slice (some ⟨kk,0,none⟩) xs.length cap:=by rw[hv];simp [toV,Ty.agg,cells,gv]
   obtain ⟨g1,_,_,g3⟩:=Zak k.ty k.p k.x (E.g b) s [.idx i.toNat] _ ⟨E.base b,0,none⟩ h2;refine Does.pure hS (v:= .pointer (some ((⟨kk,0,none⟩:Addr).add (i.toNat*u.sz)))) ?_ ⟨k,⟨u,(if i.toNat=z0 then .dead else q),xs.getD i.toNat u.dflt⟩,h1, ?_, ?_, .inr (g3 rfl), ?_⟩
   ·simp [execOp,ho,hv',ei,Instr.indexAt,asIntOf,run_underlying hd1,ZT hT hd2,b0,b1]
   ·rw[Zap _ _ _ _ _ _ h2];simp only[sub]
   ·exact Zay _ _ _ _ _ _ h2 h3 ⟨b2,ZaD _ _⟩
   ·rw[g1];simp only[addrOf,gb]
  ·cases hp
 ·rename_i b s hreg
  rw[hreg] at hx;obtain ⟨k,y,h1,h2,h3,h4,hv⟩:=hx;rw[h1] at hp;simp only at hp;rw[h2] at hp;obtain ⟨yt,yp,yx⟩:=y
  try simp only at hp
  split at hp
  case h_2=>cases hp
  rename_i n u q xs hsub;simp only[Option.some.injEq,Sub.mk.injEq] at hsub;obtain ⟨rfl,rfl,hsub⟩:=hsub;cases hsub;split at hp
  case isFalse=>cases hp
  rename_i hty;cases hp;intro hb;obtain ⟨b0,b1,b2⟩:=Zd3 hb;have hh:=ZD _ _ _ _ _ _ (hS.mem.blks b k h1).holds h3 h2;simp only[Holds] at hh;obtain ⟨e,hd1,hd2⟩:=Zf8 hT hty;obtain ⟨g1,_,g2,g3⟩:=Zak k.ty k.p k.x (E.g b) s [.idx i.toNat] _ ⟨E.base b,0,none⟩ h2;refine Does.pure hS (v:= .pointer (some ((addrOf k.ty (E.g b) s ⟨E.base b,0,none⟩).add (i.toNat*u.sz)))) ?_ ⟨k,⟨u, .ro,xs.getD i.toNat u.dflt⟩,h1, ?_, ?_,h4.imp id g2, ?_⟩
  ·simp [execOp,ho,hv,ei,Instr.indexAt,asIntOf,run_underlying hd1,ZT hT hd2,b0,b1,Instr.sureAddr]
  ·rw[Zap _ _ _ _ _ _ h2];simp only[sub]
  ·exact Zay _ _ _ _ _ _ h2 h3 ⟨⟨b2,by rw[hh.1];exact b2⟩,ZaD _ _⟩
  ·rw[g1];simp only[addrOf]
 ·rename_i n u xs hreg
  rw[hreg] at hx;split at hp
  case isFalse=>cases hp
  rename_i hty;cases hp;intro hb;obtain ⟨b0,b1,b2⟩:=Zd3 hb;obtain ⟨g,ad,hv,hsp,hh,hmem,hTb⟩:=hx;simp only[Holds] at hh;simp only[cells] at hmem;obtain ⟨e,hd1,hd2⟩:=Zf8 hT hty;refine Does.pure hS (v:= .pointer (some (ad.add (i.toNat*u.sz)))) ?_ ⟨g.at i.toNat,_,rfl,ZP _ _ hsp,hh.2 _ b2,hmem.elem hsp (fun _ _=>Za _ _ _) i.toNat b2,by rw[Zs];exact hTb⟩
  simp [execOp,ho,hv,ei,Instr.indexAt,asIntOf,run_underlying hd1,ZT hT hd2,b0,b1,Instr.sureAddr]
 ·cases hp
theorem Zio (hT:TabOk P C) {t:TypeId} (ht:C.ty t=some .str):P.underlying t=some .string:=by
 obtain ⟨ti,_,hty,hok,_⟩:=Zbu hT ht;have hd:=hok.desc
 rwa [hty] at hd
theorem Zov {E:Env} {st:St} {a:Act} {w:World} {o:Oper} {t:TypeId} {x ix:Operand} {pl:Plan} (hT:TabOk P C) (hS:Sim w0 F0 T0 E st a w) (ho:o.op= .index t x ix) (hp:plan0 C st o=some pl):PlanDoes P w0 F0 T0 o st a w pl:=by
 unfold plan0 at hp;rw[ho] at hp;simp only at hp;have hx:=Zr hS x;have hix:=Zr hS ix;split at hp
 case h_2=>cases hp
 rename_i ki i hri;rw[hri] at hix;have ei:=ZaX hix;split at hp
 ·rename_i s hreg
  rw[hreg] at hx;have ex:=Zd1 hx;split at hp
  case isFalse=>cases hp
  rename_i hty;cases hp;intro hb;obtain ⟨b0,b1,b2⟩:=Zd3 hb;have hd:=Zio hT hty;refine Does.pure hS (v:= .int .u8 (sbyte s i)) ?_ (Zaj _ _);have hs:s[i.toNat]? =some s[i.toNat]:=by simp [b2]
  simp [execOp,ho,ex,ei,Instr.index,asIntOf,run_underlying hd,b0,hs,sbyte]
 ·rename_i n u xs hreg
  rw[hreg] at hx;split at hp
  case isFalse=>cases hp
  rename_i hty;cases hp;intro hb;obtain ⟨b0,b1,b2⟩:=Zd3 hb;obtain ⟨g,hh,hv⟩:=hx;simp only[Holds] at hh;obtain ⟨e,hd1,hd2⟩:=Zf8 hT hty;have hv':a.eval x= .agg (catN (fun j=>cells u (xs.getD j u.dflt) (g.at j)) n).toArray:=by rw[hv];simp [toV,Ty.agg,cells]
  refine Does.pure hS (v:=toV u (cells u (xs.getD i.toNat u.dflt) (g.at i.toNat))) ?_ ⟨g.at i.toNat,hh.2 _ b2,rfl⟩;have hpart:=Zf7 hT hd2 w (catN (fun j=>cells u (xs.getD j u.dflt) (g.at j)) n) (i.toNat*u.sz) (cells u (xs.getD i.toNat u.dflt) (g.at i.toNat)) (Za _ _ _) (fun j hj=>(Zdv (f:=fun j=>cells u (xs.getD j u.dflt) (g.at j)) (fun _ _=>Za _ _ _) i.toNat j b2 hj).symm)
  simp [execOp,ho,hv',ei,Instr.index,asIntOf,run_underlying hd1,ZT hT hd2,b0,b1];simp only[List.getD_eq_getElem?_getD] at hpart;rw[hpart];rfl
 ·cases hp
theorem Zip:∀(n i:Nat) (t:Ty) (p:Perm) (x:t.den) (g:Gh) (y:Sub),i<n→sub t p x (fieldPath n i)=some y→(comps n t x g)[i]? =some (toV y.ty (cells y.ty y.x (ghAt t g (fieldPath n i))))
 | 0,i,_,_,_,_,_,h,_=>by omega
 | 1,i,t,p,x,g,y,h,hs=>by
  have:i=0:=by omega
  subst this;simp only[fieldPath] at hs ⊢;rw[Zp] at hs;cases hs;have h2:ghAt t g []=g:=by cases t<;>rfl
  simp [comps,h2]
 | n+2,0, .prod a b,p,x,g,y,h,hs=>by
  simp only[fieldPath,sub,Zp] at hs;cases hs;have h2:ghAt a g.l []=g.l:=by cases a<;>rfl
  simp [comps,fieldPath,ghAt,h2]
 | n+2,i+1, .prod a b,p,x,g,y,h,hs=>by
  simp only[fieldPath,sub] at hs;simp only[comps,fieldPath,ghAt,List.getElem?_cons_succ];exact Zip (n+1) i b _ _ _ y (by omega) hs
 | n+2,0, .int _,_,_,_,_,_,hs | n+2,0, .bool,_,_,_,_,_,hs | n+2,0, .str,_,_,_,_,_,hs | n+2,0, .err,_,_,_,_,_,hs | n+2,0, .arr _ _,_,_,_,_,_,hs=>by simp [fieldPath,sub] at hs
 | n+2,i+1, .int _,_,_,_,_,_,hs | n+2,i+1, .bool,_,_,_,_,_,hs | n+2,i+1, .str,_,_,_,_,_,hs | n+2,i+1, .err,_,_,_,_,_,hs | n+2,i+1, .arr _ _,_,_,_,_,_,hs=>by simp [fieldPath,sub] at hs
 | n+2,0, .slice _ _,p,_,_,_,_,hs | n+2,i+1, .slice _ _,p,_,_,_,_,hs=>by cases p<;>simp [fieldPath,sub] at hs
theorem Zl3 {E:Env} {st:St} {a:Act} {w:World} {o:Oper} {x:Operand} {i:Nat} {pl:Plan} (hS:Sim w0 F0 T0 E st a w) (ho:o.op= .extract x i) (hp:plan0 C st o=some pl):PlanDoes P w0 F0 T0 o st a w pl:=by
 unfold plan0 at hp;rw[ho] at hp;simp only at hp;have hx:=Zr hS x;split at hp
 case h_2=>cases hp
 rename_i b n hreg;rw[hreg] at hx;obtain ⟨k,h1,h2,hv⟩:=hx;rw[h1] at hp;simp only at hp;split at hp
 case h_2=>cases hp
 rename_i y hy;split at hp
 case isFalse=>cases hp
 rename_i hlt;cases hp;have hin:=Zba _ _ _ _ _ (ZC _ _) hy;refine Does.pure hS ?_ (Zki hS.mem h1 hy hin);have:=Zip n i k.ty k.p k.x (E.g b) y hlt hy;simp [execOp,ho,hv,Instr.extract,this]
theorem scal_run (hT:TabOk P C) {d:Nat} {t:TypeId} {u:Ty} (ht:C.ty t=some u) (hs:scalB u=true) (x y:u.den) (g g':Gh) (w:World):(Op.equalIn (d+1) t (toV u (cells u x g)) (toV u (cells u y g'))).run P w= .ok (same1 u x y) w:=by
 obtain ⟨ti,_,hty,hok,_⟩:=Zbu hT ht;have hd:=hok.desc;rw[hty] at hd;cases u with
 | int k=>
  have h:P.underlying t=some (.int k):=hd;show (Op.equalIn (d+1) t (.int k x) (.int k y)).run P w=_;rw[run_equalIn_int w d t k k _ _ h];simp only[same1,ieq]
  congr 1
 | bool=>
  have h:P.underlying t=some .bool:=hd;show (Op.equalIn (d+1) t (.bool x) (.bool y)).run P w=_;rw[run_equalIn_bool w d t _ _ h];rfl
 | str=>
  have h:P.underlying t=some .string:=hd;show (Op.equalIn (d+1) t (.string x) (.string y)).run P w=_;rw[run_equalIn_string w d t _ _ h];rfl
 | _=>simp [scalB] at hs
theorem fields_run (hT:TabOk P C) {d:Nat}:∀(n:Nat) (u:Ty) (off:Nat) (fs:List Field),cmpN n u=true→cmpFs C n u off fs→∀(x y:u.den) (g g':Gh) (p q:List Value),p.length=off→q.length=off→∀w:World,
  (Op.eqFields (d+1) (p++cells u x g).toArray (q++cells u y g').toArray fs).run P w= .ok (sameN n u x y) w:=by
 intro n
 have one:∀(u:Ty) (f:Field) (off:Nat) (x y:u.den) (g g':Gh) (p q r r':List Value),C.ty f.type=some u→f.offset=off→p.length=off→q.length=off→scalB u=true→∀w:World,
   (part f.type (p++(cells u x g++r)).toArray f.offset).run P w= .ok (toV u (cells u x g)) w∧(part f.type (q++(cells u y g'++r')).toArray f.offset).run P w= .ok (toV u (cells u y g')) w:=by
  intro u f off x y g g' p q r r' h1 h2 h3 h4 _ w;subst h2;refine ⟨Zf7 hT h1 w _ _ _ (Za _ _ _) fun j hj=> ?_,Zf7 hT h1 w _ _ _ (Za _ _ _) fun j hj=> ?_⟩
  ·rw[List.getElem?_append_right (by omega),h3,Nat.add_sub_cancel_left,List.getElem?_append_left (by rw[Za];exact hj)]
  ·rw[List.getElem?_append_right (by omega),h4,Nat.add_sub_cancel_left,List.getElem?_append_left (by rw[Za];exact hj)]
 induction n with
 | zero=>intro u off fs h;cases u<;>simp [cmpN] at h
 | succ n ih=>
  intro u off fs h hfs x y g g' p q hp hq w;cases n with
  | zero=>
   have hs:scalB u=true:=by cases u<;>simpa [cmpN] using h
   have hf:∃f,fs=[f]∧f.name≠ "_"∧C.ty f.type=some u∧f.offset=off:=by
    cases u<;>(match fs,hfs with | [f],hfs=>exact ⟨f,rfl,hfs⟩)
   obtain ⟨f,rfl,f1,f2,f3⟩:=hf;obtain ⟨a1,a2⟩:=one u f off x y g g' p q [] [] f2 f3 hp hq hs w;simp only[List.append_nil] at a1 a2;have e:sameN (0+1) u x y=same1 u x y:=by cases u<;>rfl
   simp only[Op.eqFields,ne_eq,f1,not_false_eq_true,if_true,Sem.run_bind,a1,a2,Result.andThen_ok,scal_run hT f2 hs];rw[e];cases same1 u x y<;>simp
  | succ n=>
   cases u with
   | prod a b=>
    simp only[cmpN,Xh] at h
    match fs,hfs with
    | f::fs,hfs=>
     obtain ⟨f1,f2,f3,f4⟩:=hfs;obtain ⟨a1,a2⟩:=one a f off x.1 y.1 g.l g'.l p q (cells b x.2 g.r) (cells b y.2 g'.r) f2 f3 hp hq h.1 w;have hr:=ih b (off+a.sz) fs h.2 f4 x.2 y.2 g.r g'.r (p++cells a x.1 g.l) (q++cells a y.1 g'.l) (by rw[Xm,Za,hp]) (by rw[Xm,Za,hq]) w;simp only[List.append_assoc] at hr;simp only[Op.eqFields,cells,ne_eq,f1,not_false_eq_true,if_true,Sem.run_bind,a1,a2,Result.andThen_ok,scal_run hT f2 h.1];show _=Result.ok (same1 a x.1 y.1 && sameN (n+1) b x.2 y.2) w;cases same1 a x.1 y.1 with
     | false=>simp
     | true=>simpa using hr
   | _=>simp [cmpN] at h
theorem Zqv {E:Env} {st:St} {a:Act} {w:World} {o:Oper} {op:BinOp} {t:TypeId} {x y:Operand} {t':TypeId} {pl:Plan} (hT:TabOk P C) (hS:Sim w0 F0 T0 E st a w) (ho:o.op= .binOp op t x y t') (hp:cmpPlan C op t (st.opd x) (st.opd y)=some pl):PlanDoes P w0 F0 T0 o st a w pl:=by
 have hx:=Zr hS x;have hy:=Zr hS y;unfold cmpPlan at hp;split at hp
 case h_2=>cases hp
 rename_i u vx u' vy hrx hry;rw[hrx] at hx;rw[hry] at hy;split at hp
 case isFalse=>cases hp
 rename_i hu;subst hu;split at hp
 case isFalse=>cases hp
 rename_i hc;obtain ⟨g,_,ex⟩:=hx;obtain ⟨g',_,ey⟩:=hy;obtain ⟨ti,_,hty,hok,hnf,_⟩:=Zbu hT hc.1;have hcmp:=hc.2;rw[hnf,←hty] at hcmp;obtain ⟨fs,f1,f2,f3,f4⟩:=hok.cmp hcmp;rw[hty,←hnf] at f2;have hagg:u'.agg=true:=by
  have hd:=hok.desc;rw[hty] at hd;cases u'<;>simp only[DescOk] at hd<;>first | rfl | (obtain ⟨_,hd⟩:=hd;rw[f1] at hd;cases hd;done) | (rw[f1] at hd;cases hd;done) | (have hd1:=hd.1;rw[f1] at hd1;cases hd1;done)
 have vx':a.eval x= .agg (cells u' vx g).toArray:=by rw[ex];simp [toV,hagg]
 have vy':a.eval y= .agg (cells u' vy g').toArray:=by rw[ey];simp [toV,hagg]
 have hfo:P.fieldsOf t=fs:=by simp [Program.fieldsOf,f1]
 have heq:(Op.equal t (.agg (cells u' vx g).toArray) (.agg (cells u' vy g').toArray)).run P w= .ok (sameN (C.nf t) u' vx vy) w:=by
  unfold Op.equal Op.maxDepth;rw[run_equalIn_struct w 9999 t _ _ (by rw[hfo];exact f1) f3,hfo]
  have:=fields_run hT (d:=9998) (C.nf t) u' 0 fs.toList hc.2 f2 vx vy g g' [] [] rfl rfl w
  simpa using this
 have hgd:∀o2,(eqGuard o2 t x y (.agg (cells u' vx g).toArray) (.agg (cells u' vy g').toArray)).run P w= .ok () w:=fun o2=>by
  unfold eqGuard;split<;>simp [f4]
 split at hp
 ·cases hp
  refine Does.pure hS (v:= .bool (sameN (C.nf t) u' vx vy)) ?_ (ZaB _);simp only[execOp,ho,vx',vy',Sem.run_bind,hgd,binOp,heq,Result.andThen_ok];rfl
 ·cases hp
  refine Does.pure hS (v:= .bool (!sameN (C.nf t) u' vx vy)) ?_ (ZaB _);simp only[execOp,ho,vx',vy',Sem.run_bind,hgd,binOp,heq,Result.andThen_ok];rfl
 ·cases hp
theorem Zqw {E:Env} {st:St} {a:Act} {w:World} {o:Oper} {op:BinOp} {t:TypeId} {x y:Operand} {t':TypeId} {pl:Plan} (hT:TabOk P C) (hS:Sim w0 F0 T0 E st a w) (ho:o.op= .binOp op t x y t') (hp:plan0 C st o=some pl):PlanDoes P w0 F0 T0 o st a w pl:=by
 unfold plan0 at hp;rw[ho] at hp;simp only at hp;have hx:=Zr hS x;have hy:=Zr hS y;split at hp
 ·rename_i b hreg
  rw[hreg] at hx;obtain ⟨g,hg,hv⟩:=hx;have hv':a.eval x=g.head:=hv;simp only[Holds] at hg;split at hp
  case isFalse=>cases hp
  rename_i hty;obtain ⟨ti,_,hty,hok,_⟩:=Zbu hT hty;have hd:=hok.desc;rw[hty] at hd;obtain ⟨ms,hd'⟩:=hd;have heq:(Op.equal t g.head .nilIface).run P w= .ok b w:=by
   unfold Op.equal Op.maxDepth;rw[Op.equalIn];rcases hg with ⟨h1,rfl⟩ | ⟨u,v,h1,rfl⟩<;>simp [run_underlying hd',h1]
  have hgd:∀o2,(eqGuard o2 t x (.const .nilIface) g.head .nilIface).run P w= .ok () w:=fun o2=>by
   unfold eqGuard;rcases hg with ⟨h1,rfl⟩ | ⟨u,v,h1,rfl⟩<;>rw[h1]<;>split<;>simp
  have hb0:∀o2 (k:Bool→Bool),(o2=BinOp.eql∧k=id∨o2=BinOp.neq∧k=not)→(binOp o2 t g.head .nilIface).run P w= .ok (.bool (k b)) w:=fun o2 k h=>by
   rcases h with ⟨rfl,rfl⟩ | ⟨rfl,rfl⟩<;>rcases hg with ⟨h1,rfl⟩ | ⟨u,v,h1,rfl⟩<;>rw[h1] at heq ⊢<;>simp only[binOp,Sem.run_bind,heq,Result.andThen_ok]<;>rfl
  split at hp
  ·cases hp
   refine Does.pure hS (v:= .bool b) ?_ (ZaB _);have h1:=hgd .eql;have h2:=hb0 .eql id (.inl ⟨rfl,rfl⟩);have hc0:a.eval (.const .nilIface)= .nilIface:=rfl;simp only[execOp,ho,hc0,hv',Sem.run_bind,h1,h2,Result.andThen_ok];rfl
  ·cases hp
   refine Does.pure hS (v:= .bool (!b)) ?_ (ZaB _);have h1:=hgd .neq;have h2:=hb0 .neq not (.inr ⟨rfl,rfl⟩);have hc0:a.eval (.const .nilIface)= .nilIface:=rfl;simp only[execOp,ho,hc0,hv',Sem.run_bind,h1,h2,Result.andThen_ok];rfl
  ·cases hp
 ·split at hp
  ·rename_i pre r hb
   cases hp;intro hpre;obtain ⟨v,h1,h2⟩:=Zjb (t:=t) (x:=x) (y:=_) hT hx hy hb (fun b hb=>by cases hb;exact hpre)
   exact Does.pure hS (v:=v) (by simp only[execOp,ho,Sem.run_bind] at h1 ⊢;rw[h1];rfl) h2
  ·rename_i r hb
   cases hp;obtain ⟨v,h1,h2⟩:=Zjb (t:=t) (x:=x) (y:=_) hT hx hy hb (fun b hb=>by cases hb);exact Does.pure hS (v:=v) (by simp only[execOp,ho,Sem.run_bind] at h1 ⊢;rw[h1];rfl) h2
  ·exact Zqv hT hS ho hp
end
end Go.Rx
namespace Go.Rx
noncomputable section
open Go.RowKit
variable {P:Program} {C:Ctx} {w0:World} {F0:List Nat} {T0:TypeId→Nat→Prop}
def bndOf (st:St) (d:Int) (x:Option Operand):Option Int:=x.elim (some d) (fun l=>match st.opd l with | .val (.int .i64) l=>some l | _=>none)
theorem Zfb {E:Env} {st:St} {a:Act} {w:World} (hS:Sim w0 F0 T0 E st a w) {lo hi:Option Operand} {l h:Int} {n cap:Nat} (isS:Bool) (hl:bndOf st 0 lo=some l) (hh:bndOf st n hi=some h) (hb:cutB l h n=true) (hc:n≤cap):
  (Instr.sliceBounds isS n cap (lo.map a.eval) (hi.map a.eval) none).run P w= .ok (l.toNat,h.toNat,cap) w:=by
 simp only[cutB,Xh,Xi] at hb;obtain ⟨b1,b2,b3⟩:=hb;have el:∀x,lo=some x→a.eval x= .int .i64 l:=fun x hx=>by
  subst hx;simp only[bndOf,Option.elim] at hl;split at hl
  ·rename_i l' hr;cases hl
   have:=Zr hS x;rw[hr] at this;exact ZaX this
  ·cases hl
 have eh:∀x,hi=some x→a.eval x= .int .i64 h:=fun x hx=>by
  subst hx;simp only[bndOf,Option.elim] at hh;split at hh
  ·rename_i l' hr;cases hh
   have:=Zr hS x;rw[hr] at this;exact ZaX this
  ·cases hh
 have hlo:lo=none→l=0:=fun e=>by subst e;simpa [bndOf] using hl.symm
 have hhi:hi=none→h=n:=fun e=>by subst e;simpa [bndOf] using hh.symm
 cases lo with
 | none=>
  have:=hlo rfl;subst this;cases hi with
  | none=>have:=hhi rfl;subst this;simp [Instr.sliceBounds]
  | some x=>
   simp only[Instr.sliceBounds,Option.map_some,Option.map_none,eh x rfl,Sem.run_bind,Sem.run_pure,Result.andThen_ok];rw[run_sliceBound w .i64 h cap _ (by omega) (by omega)];rfl
 | some y=>
  cases hi with
  | none=>
   have:=hhi rfl;subst this;simp only[Instr.sliceBounds,Option.map_some,Option.map_none,el y rfl,Sem.run_bind,Sem.run_pure,Result.andThen_ok];simp only[Option.isSome_none,Bool.false_eq_true,if_false];rw[run_sliceBound w .i64 l n _ (by omega) (by omega)];simp
  | some x=>
   simp only[Instr.sliceBounds,Option.map_some,el y rfl,eh x rfl,Sem.run_bind,Sem.run_pure,Result.andThen_ok];simp only[Option.isSome_none,Bool.false_eq_true,if_false];rw[run_sliceBound w .i64 h cap _ (by omega) (by omega)];simp only[Result.andThen_ok];rw[run_sliceBound w .i64 l h.toNat _ (by omega) (by omega)];simp
theorem Zl4 {α:Type} {xs:List α} {l h:Int} (hb:cutB l h xs.length=true):(cut xs l h).length=h.toNat - l.toNat:=by
 simp only[cutB,Xh,Xi] at hb;simp [cut];omega
theorem Zk1 {α:Type} {xs:List α} {l h:Int} (hb:cutB l h xs.length=true) (i:Nat) (hi:i<h.toNat - l.toNat) (d:α):(cut xs l h).getD i d=xs.getD (l.toNat+i) d:=by
 simp only[cutB,Xh,Xi] at hb;simp only[cut,List.getD_eq_getElem?_getD,List.getElem?_drop,List.getElem?_take];rw[if_pos (by omega)]
theorem Zow {E:Env} {st:St} {a:Act} {w:World} {o:Oper} {t:TypeId} {x:Operand} {lo hi mx:Option Operand} {pl:Plan} (hT:TabOk P C) (hS:Sim w0 F0 T0 E st a w) (ho:o.op= .slice t x lo hi mx) (hp:plan0 C st o=some pl):PlanDoes P w0 F0 T0 o st a w pl:=by
 unfold plan0 at hp;rw[ho] at hp;simp only at hp;have hx:=Zr hS x;split at hp
 ·cases hp
 rename_i hmx;have hmx':mx=none:=by cases mx<;>simp_all
 subst hmx';split at hp
 ·cases hp
 rename_i l hl0;have hl:bndOf st 0 lo=some l:=hl0;split at hp
 ·rename_i s hreg
  rw[hreg] at hx;have ex:=Zd1 hx;split at hp
  case h_2=>cases hp
  rename_i h hh0;have hh:bndOf st s.size hi=some h:=hh0;split at hp
  case isFalse=>cases hp
  rename_i hty;cases hp;intro hb;have hd:=Zio hT hty;have hbd:=Zfb (P:=P) hS false hl hh hb (Xl _);refine Does.pure hS (v:= .string (scut s l h)) ?_ (Zin _);simp [execOp,ho,ex,Instr.sliceAt,Instr.slice,run_underlying hd,hbd,scut]
 ·rename_i e u xs hreg
  rw[hreg] at hx;split at hp
  case h_2=>cases hp
  rename_i h hh0;have hh:bndOf st xs.length hi=some h:=hh0;split at hp
  case isFalse=>cases hp
  rename_i hty;cases hp;intro hb;obtain ⟨hd1,hd2⟩:=Z2 hT hty;obtain ⟨g,hho,hv⟩:=hx;simp only[Holds] at hho;obtain ⟨⟨A,cap,g1,g2,g3,g3',g4,g5⟩,g6⟩:=hho;have hv':a.eval x= .slice A xs.length cap:=by rw[hv];simp [toV,Ty.agg,cells,g1]
  have hbd:=Zfb (P:=P) hS true hl hh hb g2;have hb':=hb;simp only[cutB,Xh,Xi] at hb';have hcl:=Zl4 hb
  let A':=if cap=l.toNat then A else A.map (·.add (l.toNat*u.sz))
  refine Does.pure hS (v:= .slice A' (h.toNat - l.toNat) (cap - l.toNat)) ?_ ⟨.row (.slice A' (h.toNat - l.toNat) (cap - l.toNat)) (fun i=>g.at (l.toNat+i)), ?_, ?_⟩
  ·simp [execOp,ho,hv',Instr.sliceAt,Instr.slice,run_underlying hd1,hbd,ZT hT hd2,A']
  ·have hxne:cut xs l h≠[]→xs≠[]:=fun hne e=>by
    subst e;have hlen:0<(cut ([]:List u.den) l h).length:=List.length_pos_iff.2 hne;simp [cut] at hlen
   simp only[Holds,Gh.head,Gh.at];refine ⟨⟨A',cap - l.toNat,by rw[hcl],by rw[hcl];omega, ?_, ?_, ?_, ?_⟩,fun i hi=> ?_⟩
   ·intro hne ad had
    replace g3:=g3 (hxne hne)
    simp only[A'] at had;split at had
    ·exact g3 ad had
    ·cases A with
     | none=>cases had
     | some a0=>simp at had;subst had;exact ZP _ _ (g3 a0 rfl)
   ·intro had
    simp only[A'] at had;split at had
    ·omega
    ·cases A with
     | none=>have:=g3' rfl;omega
     | some a0=>simp at had
   ·intro hne
    have hlen:0<(cut xs l h).length:=List.length_pos_iff.2 hne;rw[hcl] at hlen;have hxne:xs≠[]:=by rintro rfl;simp at hb' hlen;omega
    obtain ⟨a0,rfl,hTb⟩:=g4 hxne;have:cap≠l.toNat:=by omega
    exact ⟨a0.add (l.toNat*u.sz),by simp [A',this],by rw[Zs];exact hTb⟩
   ·intro ad had
    rw[hcl];by_cases h0:h.toNat - l.toNat=0
    ·rw[h0];intro j v hj;simp [catN] at hj
    ·have hcne:cap≠l.toNat:=by omega
     simp only[A',if_neg hcne] at had;cases A with
     | none=>cases had
     | some a0=>
      simp at had;subst had
      replace g3:=g3 (by rintro rfl;simp at hb';omega)
      refine memAt_catN (ZP _ _ (g3 a0 rfl)) (fun _ _=>Za _ _ _) (fun i hi=> ?_);rw[Zk1 hb i hi,Ze7 _ _ _ (g3 a0 rfl),←Nat.add_mul];exact (g5 a0 rfl).elem (g3 a0 rfl) (fun _ _=>Za _ _ _) (l.toNat+i) (by omega)
   ·rw[hcl] at hi
    rw[Zk1 hb i hi];exact g6 _ (by omega)
  ·simp [toV,Ty.agg,cells,Gh.head]
 ·rename_i b s hreg
  rw[hreg] at hx;obtain ⟨k,y,h1,h2,h3,hv⟩:=hx;rw[h1] at hp;simp only at hp;rw[h2] at hp;obtain ⟨yt,yp,yx⟩:=y
  try simp only at hp
  split at hp
  case h_2=>cases hp
  rename_i e u q xs hsub;simp only[Option.some.injEq,Sub.mk.injEq] at hsub;obtain ⟨rfl,rfl,hsub⟩:=hsub;cases hsub;split at hp
  case h_2=>cases hp
  rename_i h hh0;have hh:bndOf st xs.length hi=some h:=hh0;split at hp
  case isFalse=>cases hp
  rename_i hty;cases hp;intro hb;obtain ⟨hd1,hd2⟩:=Z2 hT hty;have hho:=ZD _ _ _ _ _ _ (hS.mem.blks b k h1).holds h3 h2;simp only[Holds] at hho;obtain ⟨A,cap,gv,gcap,gspot⟩:∃A cap,(ghAt k.ty (E.g b) s).head= .slice A xs.length cap∧xs.length≤cap∧(∀a,A=some a→a.spot=none∧Value.base (ghAt k.ty (E.g b) s).head=a):=by
   rcases hho.1.2 with ⟨g1,g2⟩ | ⟨kk,cap,cur,g1,_,g2,_⟩
   ·exact ⟨none,0,by rw[g1,g2],by omega,by simp⟩
   ·exact ⟨_,cap,g1,g2,fun a ha=>by cases ha;exact ⟨rfl,by rw[g1];rfl⟩⟩
  have hv':a.eval x= .slice A xs.length cap:=by rw[hv];simp [toV,Ty.agg,cells,gv]
  have hbd:=Zfb (P:=P) hS true hl hh hb gcap;have hb':=hb;simp only[cutB,Xh,Xi] at hb';have hsome:h.toNat - l.toNat≠0→∃a0,A=some a0:=fun hne=>by
   cases A with
   | some a0=>exact ⟨a0,rfl⟩
   | none=>
    rcases hho.1.2 with ⟨g1,g2⟩ | ⟨kk,cap',cur,g1,_⟩
    ·omega
    ·rw[gv] at g1;cases g1
  let A':=if cap=l.toNat then A else A.map (·.add (l.toNat*u.sz))
  refine Does.pure hS (v:= .slice A' (h.toNat - l.toNat) (cap - l.toNat)) ?_ ⟨k,e,u,q,xs,h1,h2,h3,by omega,A',cap - l.toNat,rfl,by omega, ?_, ?_, ?_⟩
  ·simp [execOp,ho,hv',Instr.sliceAt,Instr.slice,run_underlying hd1,hbd,ZT hT hd2,A']
  ·intro had
   simp only[A'] at had;split at had
   ·omega
   ·cases A with
    | none=>
     rcases hho.1.2 with ⟨g1,g2⟩ | ⟨kk,cap',cur,g1,_⟩
     ·rw[gv] at g1;simp only[Value.slice.injEq] at g1;omega
     ·rw[gv] at g1;cases g1
    | some a0=>simp at had
  ·intro ad had
   simp only[A'] at had;split at had
   ·exact (gspot ad had).1
   ·cases A with
    | none=>cases had
    | some a0=>simp at had;subst had;exact ZP _ _ (gspot a0 rfl).1
  ·intro i hi
   obtain ⟨a0,rfl⟩:=hsome (by omega);have:cap≠l.toNat:=by omega
   refine ⟨a0.add (l.toNat*u.sz),by simp [A',this], ?_⟩;rw[(gspot a0 rfl).2,Ze7 _ _ _ (gspot a0 rfl).1,←Nat.add_mul]
 ·cases hp
theorem Zox {E:Env} {st:St} {a:Act} {w:World} {o:Oper} {e:TypeId} {pl:Plan} (hT:TabOk P C) (hS:Sim w0 F0 T0 E st a w) (hfit:Fits st) (hd:∀d,o.dst=some d→d<st.regs.length) (ho:o.op= .alloc e) (hp:plan0 C st o=some pl):PlanDoes P w0 F0 T0 o st a w pl:=by
 unfold plan0 at hp;rw[ho] at hp;simp only at hp;split at hp
 case h_2=>cases hp
 rename_i d t hdst hty;cases hp;obtain ⟨z1,z2⟩:=ZaW w (Tch T0 E st.blk w) t;obtain ⟨m1,k1⟩:=hS.mem.plain st.blks.length (Zj st 0) t t.zp t.dflt t.zg z1 z2;obtain ⟨E',hE⟩:=Zqt (U:=[]) (K:=[]) (e:=e) hS hfit (hd d hdst) (by simp) m1 (Zae (Zj st 0) k1 (fun i hi=>Zl _ _ hi) (fun _ _=>rfl));rw[←hdst] at hE;simp only[setG_same,List.nil_append] at hE;refine Does.value (v:= .pointer (some ⟨w.heap.size,0,none⟩)) ?_ hE;have hz:=Zem hT hty w;have hcells:=Zav z1;simp [execOp,ho,Instr.alloc,hz,newVar,newRow,hcells]
theorem ZmL {E:Env} {st:St} {a:Act} {w:World} {o:Oper} {e:TypeId} {x:Operand} {d:Nat} {t:Ty} {k:Blk} (hS:Sim w0 F0 T0 E st a w) (hfit:Fits st) (hdst:o.dst=some d) (ho:o.op= .box e x) (hk:boxHere st t (st.opd x)=some k):
  Does P w0 F0 T0 o a w (({ r:= .ptr 0 [],upd:=[(0,some ⟨true,false,k.p,k.ty,k.x⟩)],kill:=[.moved 0] }:Eff).apply o.dst st):=by
 unfold boxHere at hk;split at hk
 case h_2=>cases hk
 rename_i hreg;split at hk
 case h_2=>cases hk
 rename_i k0 hb;split at hk
 case isFalse=>cases hk
 rename_i hc;cases hk;have hx:=Zr hS x;rw[hreg] at hx;obtain ⟨k1,y,q1,q2,_,q4⟩:=hx;rw[hb] at q1;cases q1;rw[Zp] at q2;cases q2;have hgn:∀g:Gh,ghAt k.ty g []=g:=fun g=>by cases k.ty<;>rfl
 simp only[hgn] at q4;have hh:=(hS.mem.blks 0 _ hb).holds;have hcells:(a.eval x).cells=(cells k.ty k.x (E.g 0)).toArray:=by rw[q4];exact Zav hh
 obtain ⟨E',m1,k2,hbs,hg,hbe⟩:=hS.mem.boxHere hb hc.2 e;have hlt:(0:Nat)<st.blks.length:=ZaK hb;refine Does.value (v:= .pointer (some ⟨w.heap.size,0,none⟩)) (w':=w.alloc (.cells (cells k.ty k.x (E.g 0)).toArray e)) (E':=E') ?_ ?_
 ·simp [execOp,ho,Instr.box,newVar,newRow,hcells]
 ·refine hS.step (blk':=setB st.blk 0 (some ⟨true,false,k.p,k.ty,k.x⟩)) (fun c o' h=> ?_) (Zq _ _ _) m1 ?_ ?_
  ·simp at h;rw[h.1];exact hlt
  ·exact Zik hb rfl rfl k2 hg hbe
  ·refine ⟨⟨true,false,k.p,k.ty,k.x⟩,⟨k.ty,k.p,k.x⟩,setB_same _ _ _,Zp _ _ _,ZaD _ _, .inl rfl, ?_⟩
   have:addrOf k.ty (E'.g 0) [] ⟨E'.base 0,0,none⟩=⟨E'.base 0,0,none⟩:=by cases k.ty<;>rfl
   show _=Value.pointer (some (addrOf k.ty (E'.g 0) [] ⟨E'.base 0,0,none⟩));rw[this,hbs]
theorem Zqx {E:Env} {st:St} {a:Act} {w:World} {o:Oper} {e:TypeId} {x:Operand} {pl:Plan} (hS:Sim w0 F0 T0 E st a w) (hfit:Fits st) (hd:∀d,o.dst=some d→d<st.regs.length) (ho:o.op= .box e x) (hp:plan0 C st o=some pl):PlanDoes P w0 F0 T0 o st a w pl:=by
 unfold plan0 at hp;rw[ho] at hp;simp only at hp;split at hp
 case h_2=>cases hp
 rename_i d t hdst hty;split at hp
 ·rename_i k hk
  cases hp;exact ZmL hS hfit hdst ho hk
 split at hp
 case h_2=>cases hp
 rename_i c u hc hu;cases hp;obtain ⟨E1,m1,c1,hv,_,hU⟩:=Zi9 (h:=st.blks.length) hc hu hS.mem (fun b k h=>h) (Zr hS x) (Zj st 0);obtain ⟨E',hE⟩:=Zqt (e:=e) hS hfit (hd d hdst) hU m1 c1;rw[←hdst] at hE;refine Does.value (v:= .pointer (some ⟨w.heap.size,0,none⟩)) ?_ hE;have hh:=(m1.blks st.blks.length _ (setB_same _ _ _)).holds;have hcells:(a.eval x).cells=(cells t c.2 (E1.g st.blks.length)).toArray:=by rw[hv];exact Zav hh
 simp [execOp,ho,Instr.box,newVar,newRow,hcells]
theorem Zep:∀(t:Ty) (p:Perm) (x:t.den) (s:Path) (t':Ty) (q:Perm) (v:t'.den) (r:Perm×t.den),put t p x s t' q v=some r→tyAt t s=some t'
 | t,p,x,[],t',q,v,r,h=>by
  obtain ⟨e,_⟩:=Zfz h;have:tyAt t []=some t:=by cases t<;>rfl
  rw[this,e]
 | .prod a b,p,x, .fst::s,t',q,v,r,h=>by
  simp only[put,Option.map_eq_some_iff] at h;obtain ⟨z,h,_⟩:=h;simp only[tyAt];exact Zep a _ _ s t' q v z h
 | .prod a b,p,x, .snd::s,t',q,v,r,h=>by
  simp only[put,Option.map_eq_some_iff] at h;obtain ⟨z,h,_⟩:=h;simp only[tyAt];exact Zep b _ _ s t' q v z h
 | .arr n t,p,xs, .idx i::s,t',q,v,r,h=>by
  simp only[put,Option.bind_eq_some_iff] at h;obtain ⟨z,h,_⟩:=h;simp only[tyAt];exact Zep t _ _ s t' q v z h
 | .slice e t, .own o,xs, .idx i::s,t',q,v,r,h=>by
  simp only[put,Option.bind_eq_some_iff] at h;obtain ⟨z,h,_⟩:=h;simp only[tyAt];exact Zep t _ _ s t' q v z h
 | .int _,_,_,_::_,_,_,_,_,h | .bool,_,_,_::_,_,_,_,_,h | .str,_,_,_::_,_,_,_,_,h | .err,_,_,_::_,_,_,_,_,h=>by simp [put] at h
 | .prod _ _,_,_, .idx _::_,_,_,_,_,h | .arr _ _,_,_, .fst::_,_,_,_,_,h | .arr _ _,_,_, .snd::_,_,_,_,_,h=>by simp [put] at h
 | .slice _ _, .own _,_, .fst::_,_,_,_,_,h | .slice _ _, .own _,_, .snd::_,_,_,_,_,h | .slice _ _, .hole _ _,_, .fst::_,_,_,_,_,h | .slice _ _, .hole _ _,_, .snd::_,_,_,_,_,h=>by simp [put] at h
 | .slice _ _, .ro,_,_::_,_,_,_,_,h | .slice _ _, .dead,_,_::_,_,_,_,_,h | .slice _ _, .pr _ _,_,_::_,_,_,_,_,h=>by simp [put] at h
theorem Zl5:∀ {t t':Ty} {p q:Perm} {x:t.den} {s:Path} {v:t'.den} {r:Perm×t.den} {y:Sub},put t p x s t' q v=some r→sub t p x s=some y→y.ty=t'
 | t,t',p,q,x,s,v,r,y,h,hs=>by
  have h1:=Zai _ _ _ _ _ hs;have h2:=Zep t p x s t' q v r h;rw[h1] at h2;exact Option.some.inj h2
theorem Zoy {E:Env} {st:St} {a:Act} {w:World} {o:Oper} {t:TypeId} {p x:Operand} {pl:Plan} (hT:TabOk P C) (hS:Sim w0 F0 T0 E st a w) (hfit:Fits st) (ho:o.op= .store t p x) (hp:storePlan C st t p x=some pl):PlanDoes P w0 F0 T0 o st a w pl:=by
 unfold storePlan at hp;have hpt:=Zr hS p;split at hp
 case h_2=>cases hp
 rename_i b s hreg;rw[hreg] at hpt;split at hp
 case h_2=>cases hp
 rename_i k0 hk0;split at hp
 case h_2=>cases hp
 rename_i y0 hy0;split at hp
 case isFalse=>cases hp
 rename_i hty;split at hp
 case h_2=>cases hp
 rename_i c u hc hu;split at hp
 case h_2=>cases hp
 rename_i b' s' k hkill hk;split at hp
 case h_2=>cases hp
 rename_i z hz;cases hp;obtain ⟨E1,m1,c1,hv,hbase,hU⟩:=Zi9 (h:=st.blks.length) hc hu hS.mem (fun b k h=>h) (Zr hS x) (Zj st 0);have hp1:=c1 _ _ hpt;have hsame:killL u.2 (.ptr b s)= .ptr b s:=by
  rcases ZcF u.2 (.ptr b s) with h | h
  ·exact h
  ·rw[hkill] at h;cases h
 rw[hsame] at hp1;obtain ⟨k1,y1,g1,g2,g3,g4,g5⟩:=hp1;have hbN:b≠st.blks.length:=fun e=>by have:=ZaK hk0;omega
 rw[Ze _ _ hbN] at g1;have hk':updF st.blk u.1 b=some k:=hk;rw[hk'] at g1;cases g1;obtain ⟨hpm1,hpm2,hpm3,cur,e,fr,hpm4,hpm6,hpm5⟩:=Zcp m1 (b:=b) (k:=k) (by rw[Ze _ _ hbN];exact hk') g2 g3 g4
 have hyt:y1.ty=y0.ty:=by
  exact Zl5 hz g2
 obtain ⟨yt,yp,yx⟩:=y1;simp only at hyt;subst hyt;have hh:=(m1.blks st.blks.length _ (setB_same _ _ _)).holds;have hcells:(a.eval x).cells=(cells y0.ty c.2 (E1.g st.blks.length)).toArray:=by rw[hv];exact Zav hh
 obtain ⟨w',hrun,hst⟩:=ZfB hT hty (w:=w) hcells (Za _ _ _) hpm2 (Zad _ _ _ _ hh) ⟨cur,e,fr,hpm4,hpm6,hpm5⟩;obtain ⟨m2,k2⟩:=m1.store (h:=st.blks.length) (b:=b) (k:=k) (k2:=⟨false,false,c.1,y0.ty,c.2⟩) (s:=s) (y:=⟨y0.ty,yp,yx⟩) (r:=z) (w':=w') (by rw[Ze _ _ hbN];exact hk') (setB_same _ _ _) rfl (Ne.symm hbN) rfl g2 g3 g4 hz hst
 have hfin:setB (setB (setB (updF st.blk u.1) st.blks.length (some ⟨false,false,c.1,y0.ty,c.2⟩)) st.blks.length none) b (some ⟨k.var,k.pin,z.1,k.ty,z.2⟩)=updF st.blk (u.1++[(b,some ⟨k.var,k.pin,z.1,k.ty,z.2⟩)]):=by
  rw[ZO,ZaO (f:=updF st.blk u.1) (a:=st.blks.length) (x:=none) (Z4 hU 0),ZN,Zq]
 have hcc:Carries ([.all st.blks.length]++[.at b k.ty s]) E1 w _ (setB (updF st.blk u.1) st.blks.length (some ⟨false,false,c.1,y0.ty,c.2⟩)) _ w' _ _:=
  (Zm (E:=E1) (E':=E1) (w:=w) (w':=w) st.blks.length none (Kept.refl _ _) (fun _ _=>rfl) (fun _ _=>rfl)).trans
   (Zdy (E:=E1) (E':=⟨setG E1.g b (ghSet k.ty (E1.g b) s (E1.g st.blks.length)),E1.base⟩) (w:=w) (w':=w') (blk:=setB (setB (updF st.blk u.1) st.blks.length (some ⟨false,false,c.1,y0.ty,c.2⟩)) st.blks.length none)
    (b:=b) (k:=k) (s:=s) (y:=⟨y0.ty,yp,yx⟩) (q0:=c.1) (v0:=c.2) (r:=z) (gz:=E1.g st.blks.length) (by rw[Ze _ _ hbN,Ze _ _ hbN];exact hk') g2 g3 hz k2 rfl rfl)
 rw[hfin] at m2 k2 hcc;refine .inr (.inl ⟨w',⟨setG E1.g b (ghSet k.ty (E1.g b) s (E1.g st.blks.length)),E1.base⟩, ?_,hS.step (blk':=updF st.blk (u.1++[(b,some ⟨k.var,k.pin,z.1,k.ty,z.2⟩)])) (fun c' o' h'=> ?_) rfl m2 ?_ trivial⟩)
 ·simp only[execOp,ho,g5,Instr.storeAt,Instr.sureAddr,Sem.run_bind,Sem.run_pure,Result.andThen_ok,hrun]
 ·rcases List.mem_append.1 h' with h' | h'
  ·obtain ⟨k',hk'⟩:=hU c' o' h';exact ZaK hk'
  ·simp at h';rw[h'.1];exact ZaK hk0
 ·exact Carries.dropHand (Zj st 0) (by simpa using c1.trans hcc)
end
end Go.Rx
namespace Go.Rx
noncomputable section
open Go.RowKit
variable {P:Program} {C:Ctx} {w0:World} {F0:List Nat} {T0:TypeId→Nat→Prop}
def spl (cs:List Value) (off:Nat) (vs:List Value):List Value:=cs.take off++(vs++cs.drop (off+vs.length))
theorem ZbI {cs:List Value} {off:Nat} {vs:List Value} (h:off+vs.length≤cs.length):(spl cs off vs).length=cs.length:=by simp [spl];omega
theorem ZbQ {cs:List Value} {off:Nat} {vs:List Value} (h:off+vs.length≤cs.length) (m:Nat):(spl cs off vs)[m]? =if off≤m∧m<off+vs.length then vs[m - off]? else cs[m]? :=by
 unfold spl;by_cases c1:m<off
 ·rw[List.getElem?_append_left (by simp;omega),List.getElem?_take,if_pos c1,if_neg (by omega)]
 ·have e1:(cs.take off).length=off:=by simp;omega
  rw[List.getElem?_append_right (by omega),e1];by_cases c2:m<off+vs.length
  ·rw[List.getElem?_append_left (by omega),if_pos (by omega)]
  ·rw[List.getElem?_append_right (by omega),List.getElem?_drop,if_neg (by omega)]
   congr 1;omega
theorem Zk2:∀(vs:List Value) (off k:Nat) (cs:Array Value),off+k+vs.length≤cs.size→((vs.zipIdx k).foldl (fun (cs:Array Value) (p:Value×Nat)=>cs.setIfInBounds (off+p.2) p.1) cs).toList=spl cs.toList (off+k) vs
 | [],off,k,cs,_=>by simp [spl]
 | v::vs,off,k,cs,h=>by
  simp only[List.length_cons] at h;simp only[List.zipIdx_cons,List.foldl_cons];rw[Zk2 vs off (k+1) (cs.setIfInBounds (off+k) v) (by simp;omega)]
  apply List.ext_getElem?;intro m;rw[ZbQ (by simp;omega),ZbQ (by simp;omega)]
  simp only[Array.toList_setIfInBounds,List.length_cons];by_cases c1:m=off+k
  ·subst c1
   rw[if_neg (by omega),if_pos (by omega),List.getElem?_set_self (by simp;omega)];simp
  ·by_cases c2:off+k<m∧m<off+k+(vs.length+1)
   ·rw[if_pos (by omega),if_pos (by omega)]
    rw[show m - (off+k)=(m - (off+(k+1)))+1 by omega,List.getElem?_cons_succ]
   ·rw[if_neg (by omega),if_neg (by omega),List.getElem?_set_ne (by omega)]
theorem Zdd {place:Nat→Option (Nat×Nat)} {cs:List Value} {i off size:Nat} {v:Value} {vs:List Value} {rest:List (Nat×Value)} (hp:place i=some (off,size)) (hv:v.cells=vs.toArray) (hl:vs.length=size) (hfit:off+size≤cs.length):
  Instr.fill place cs.toArray ((i,v)::rest)=Instr.fill place (spl cs off vs).toArray rest:=by
 have hf:=Zk2 vs off 0 cs.toArray (by simp;omega)
 simp only[Nat.add_zero] at hf;have hfold:v.cells.zipIdx.foldl (fun cs (c,j)=>cs.setIfInBounds (off+j) c) cs.toArray=(spl cs off vs).toArray:=by
  rw[←Array.toList_inj,hv];rw[←hf];simp [Array.foldl_toList]
 have hcond:(decide (v.cells.size≠size) || decide (off+v.cells.size>cs.toArray.size))=false:=by
  simp [hv,hl];omega
 simp only[Instr.fill,hp];rw[hfold];simp only[hv,List.size_toArray,hl];rw[if_neg (by simp;omega)]
theorem Zgw:∀(t:Ty) (p:Perm) (x:t.den) (g:Gh) (s:Path) (y:Sub) (q:Perm) (z:y.ty.den) (gz:Gh) (r:Perm×t.den),hasIdx s=false→sub t p x s=some y→put t p x s y.ty q z=some r→
  cells t r.2 (ghSet t g s gz)=spl (cells t x g) (offOf t s) (cells y.ty z gz)∧offOf t s+y.ty.sz≤t.sz
 | t,p,x,g,[],y,q,z,gz,r,_,hs,hp=>by
  rw[Zp] at hs;cases hs;obtain ⟨_,rfl⟩:=Zfz hp;have h3:ghSet t g [] gz=gz:=by cases t<;>rfl
  have h4:offOf t []=0:=by cases t<;>rfl
  rw[h3,h4];refine ⟨?_,by simp⟩;have hl:=Za t x g;have hl2:=Za t z gz;simp only[spl,List.take_zero,List.nil_append,Nat.zero_add,castTo];rw[hl2,List.drop_eq_nil_of_le (by omega),List.append_nil]
 | .prod ta tb,p,x,g, .fst::s,y,q,z,gz,r,hi,hs,hp=>by
  simp only[hasIdx] at hi;simp only[sub] at hs;simp only[put,Option.map_eq_some_iff] at hp;obtain ⟨z',hp,rfl⟩:=hp;obtain ⟨h1,h2⟩:=Zgw ta _ _ g.l s y q z gz z' hi hs hp;simp only[cells,ghSet,Gh.pr_l,Gh.pr_r,offOf,Ty.sz,h1];refine ⟨?_,by omega⟩;apply List.ext_getElem?;intro m;have l1:=Za ta x.1 g.l;have l2:=Za y.ty z gz;rw[ZbQ (by simp only[Xm];omega)]
  by_cases c:m<ta.sz
  ·rw[List.getElem?_append_left (by rw[ZbI (by omega)];omega),ZbQ (by omega),List.getElem?_append_left (by omega)]
  ·rw[List.getElem?_append_right (by rw[ZbI (by omega)];omega),ZbI (by omega),if_neg (by omega),List.getElem?_append_right (by omega)]
 | .prod ta tb,p,x,g, .snd::s,y,q,z,gz,r,hi,hs,hp=>by
  simp only[hasIdx] at hi;simp only[sub] at hs;simp only[put,Option.map_eq_some_iff] at hp;obtain ⟨z',hp,rfl⟩:=hp;obtain ⟨h1,h2⟩:=Zgw tb _ _ g.r s y q z gz z' hi hs hp;simp only[cells,ghSet,Gh.pr_l,Gh.pr_r,offOf,Ty.sz,h1];refine ⟨?_,by omega⟩;apply List.ext_getElem?;intro m;have l1:=Za ta x.1 g.l;have l3:=Za tb x.2 g.r;have l2:=Za y.ty z gz;rw[ZbQ (by simp only[Xm];omega)]
  by_cases c:m<ta.sz
  ·rw[List.getElem?_append_left (by omega),if_neg (by omega),List.getElem?_append_left (by omega)]
  ·rw[List.getElem?_append_right (by omega),ZbQ (by omega),l1,List.getElem?_append_right (by omega),l1]
   by_cases c2:ta.sz+offOf tb s≤m∧m<ta.sz+offOf tb s+(cells y.ty z gz).length
   ·rw[if_pos (by omega),if_pos c2];congr 1;omega
   ·rw[if_neg (by omega),if_neg c2]
 | t,_,_,_, .idx _::_,_,_,_,_,_,hi,_,_=>by simp [hasIdx] at hi
 | .int _,_,_,_, .fst::_,_,_,_,_,_,_,hs,_ | .bool,_,_,_, .fst::_,_,_,_,_,_,_,hs,_ | .str,_,_,_, .fst::_,_,_,_,_,_,_,hs,_ | .err,_,_,_, .fst::_,_,_,_,_,_,_,hs,_=>by simp [sub] at hs
 | .int _,_,_,_, .snd::_,_,_,_,_,_,_,hs,_ | .bool,_,_,_, .snd::_,_,_,_,_,_,_,hs,_ | .str,_,_,_, .snd::_,_,_,_,_,_,_,hs,_ | .err,_,_,_, .snd::_,_,_,_,_,_,_,hs,_=>by simp [sub] at hs
 | .arr _ _,_,_,_, .fst::_,_,_,_,_,_,_,hs,_ | .arr _ _,_,_,_, .snd::_,_,_,_,_,_,_,hs,_=>by simp [sub] at hs
 | .slice _ _,p,_,_, .fst::_,_,_,_,_,_,_,hs,_ | .slice _ _,p,_,_, .snd::_,_,_,_,_,_,_,hs,_=>by cases p<;>simp [sub] at hs
theorem ZdR (Z:List Value) (hZ:0<Z.length) (n:Nat):(madeCells Z.toArray (n*Z.length)).toList=catN (fun _=>Z) n:=by
 apply List.ext_getElem?;intro m;have hlen:(catN (fun _=>Z) n).length=n*Z.length:=ZR (fun _ _=>rfl);by_cases hm:m<n*Z.length
 ·have hi:m / Z.length<n:=Nat.div_lt_of_lt_mul (by rwa [Nat.mul_comm])
  have hj:m % Z.length<Z.length:=Nat.mod_lt _ hZ;have:=Zdv (f:=fun _=>Z) (s:=Z.length) (n:=n) (fun _ _=>rfl) (m / Z.length) (m % Z.length) hi hj;rw[show m / Z.length*Z.length+m % Z.length=m by rw[Nat.mul_comm];exact Nat.div_add_mod m Z.length] at this
  rw[this];simp [madeCells,hm,hj]
 ·rw[List.getElem?_eq_none (by simp [madeCells];omega),List.getElem?_eq_none (by omega)]
theorem Zjf {E E1:Env} {st:St} {a:Act} {w w':World} {d:Nat} {U:List (Nat×Option Blk)} {K:List Kill} {p:Perm} {t:Ty} {x:t.den} (hS:Sim w0 F0 T0 E st a w) (hfit:Fits st) (hd:d<st.regs.length)
  (hU:∀b o,(b,o)∈U→∃k,st.blk b=some k)
  (hm:Mem w0 F0 T0 E1 (setB (updF st.blk U) st.blks.length (some ⟨false,false,p,t,x⟩)) w')
  (hc:Carries K E w (Tch T0 E st.blk w) st.blk E1 w' (Tch T0 E1 (setB (updF st.blk U) st.blks.length (some ⟨false,false,p,t,x⟩)) w') (setB (updF st.blk U) st.blks.length (some ⟨false,false,p,t,x⟩))):
  ∃E',Sim w0 F0 T0 E' ((hold d t p x U K).apply (some d) st) (a.put (some d) (toV t (cells t x (E1.g st.blks.length)))) w':=by
 have hfree:=Z4 hU 0;have hdN:st.blks.length≠d:=by rw[hfit.len];omega
 obtain ⟨m1,k1⟩:=hm.drop st.blks.length;have c1:=Zm (E:=E1) (E':=E1) (w:=w') (w':=w') (T:=Tch T0 E1 (setB (updF st.blk U) st.blks.length (some ⟨false,false,p,t,x⟩)) w') (T':=Tch T0 E1 (setB (setB (updF st.blk U) st.blks.length (some ⟨false,false,p,t,x⟩)) st.blks.length none) w') (blk:=setB (updF st.blk U) st.blks.length (some ⟨false,false,p,t,x⟩)) st.blks.length none k1 (fun _ _=>rfl) (fun _ _=>rfl);have hfin:setB (setB (updF st.blk U) st.blks.length (some ⟨false,false,p,t,x⟩)) st.blks.length none=updF st.blk U:=by
  rw[ZO,ZaO (f:=updF st.blk U) (a:=st.blks.length) (x:=none) hfree]
 unfold hold;by_cases hpl:p.plain=true
 ·rw[if_pos hpl]
  rw[hfin] at m1 c1 k1;refine ⟨E1,hS.step (blk':=updF st.blk U) (fun c o h=> ?_) rfl m1 ?_ ?_⟩
  ·obtain ⟨k,hk⟩:=hU c o h;exact ZaK hk
  ·have:=Carries.dropHand (K:=K) (K2:=[]) (Zj st 0) (by simpa using hc.trans c1)
   simpa using this
  ·have hh:=Zgr (hm.blks st.blks.length _ (setB_same _ _ _)).holds hpl
   exact ⟨_,hh.kept k1,rfl⟩
 ·rw[if_neg hpl]
  obtain ⟨m2,k2⟩:=hm.drop d;have hN2:setB (setB (updF st.blk U) st.blks.length (some ⟨false,false,p,t,x⟩)) d none st.blks.length=some ⟨false,false,p,t,x⟩:=by rw[Ze _ _ hdN,setB_same]
  obtain ⟨m3,k3⟩:=m2.rename st.blks.length d ⟨false,false,p,t,x⟩ hN2 rfl (setB_same _ _ _);have hfin2:setB (setB (setB (setB (updF st.blk U) st.blks.length (some ⟨false,false,p,t,x⟩)) d none) st.blks.length none) d (some ⟨false,false,p,t,x⟩)=updF st.blk (U++[(d,some ⟨false,false,p,t,x⟩)]):=by
   rw[Zen _ _ _ hdN,ZO,Zen _ _ _ (Ne.symm hdN),ZO,ZaO (f:=updF st.blk U) (a:=st.blks.length) (x:=none) hfree,ZN,Zq]
  simp only at m3 k3;rw[hfin2] at m3 k3;have kk:Kept w' (Tch T0 E1 (setB (updF st.blk U) st.blks.length (some ⟨false,false,p,t,x⟩)) w') w' (Tch T0 ⟨setG E1.g d (E1.g st.blks.length),E1.base⟩ (updF st.blk (U++[(d,some ⟨false,false,p,t,x⟩)])) w'):=fun i j hj=>⟨rfl,(k3 i j (k2 i j hj).2).2⟩
  have c2:=Zm (E:=E1) (E':=⟨setG E1.g d (E1.g st.blks.length),E1.base⟩) (w:=w') (w':=w') (T:=Tch T0 E1 (setB (updF st.blk U) st.blks.length (some ⟨false,false,p,t,x⟩)) w') (T':=Tch T0 ⟨setG E1.g d (E1.g st.blks.length),E1.base⟩ (updF st.blk (U++[(d,some ⟨false,false,p,t,x⟩)])) w') (blk:=updF st.blk U) d (some ⟨false,false,p,t,x⟩) kk (fun i hi=>Zl _ _ hi) (fun _ _=>rfl);have c1':=Zm (E:=E1) (E':=E1) (w:=w') (w':=w') (T:=Tch T0 E1 (setB (updF st.blk U) st.blks.length (some ⟨false,false,p,t,x⟩)) w') (T':=Tch T0 E1 (setB (updF st.blk U) st.blks.length (some ⟨false,false,p,t,x⟩)) w') (blk:=setB (updF st.blk U) st.blks.length (some ⟨false,false,p,t,x⟩)) st.blks.length none (Kept.refl _ _) (fun _ _=>rfl) (fun _ _=>rfl);rw[hfin] at c1';have hB:setB (updF st.blk U) d (some ⟨false,false,p,t,x⟩)=updF st.blk (U++[(d,some ⟨false,false,p,t,x⟩)]):=by rw[ZN,Zq]
  rw[hB] at c2;refine ⟨⟨setG E1.g d (E1.g st.blks.length),E1.base⟩,hS.step (blk':=updF st.blk (U++[(d,some ⟨false,false,p,t,x⟩)])) (fun c o h=> ?_) rfl m3 ?_ ?_⟩
  ·rcases List.mem_append.1 h with h | h
   ·obtain ⟨k,hk⟩:=hU c o h;exact ZaK hk
   ·simp at h;rw[hfit.len];omega
  ·exact Carries.dropHand (Zj st 0) (by simpa using (hc.trans c1').trans c2)
  ·refine ⟨⟨false,false,p,t,x⟩,⟨t,p,x⟩,by rw[←hB,setB_same],Zp _ _ _,ZaD _ _, ?_⟩
   have:ghAt t (setG E1.g d (E1.g st.blks.length) d) []=E1.g st.blks.length:=by rw[setG_same];cases t<;>rfl
   show _=toV t (cells t x (ghAt t (setG E1.g d (E1.g st.blks.length) d) []));rw[this]
end
end Go.Rx
namespace Go.Rx
noncomputable section
open Go.RowKit
variable {P:Program} {C:Ctx} {w0:World} {F0:List Nat} {T0:TypeId→Nat→Prop}
theorem Ziq (hT:TabOk P C) {t:TypeId} {u:Ty} (ht:C.ty t=some u):∃i,P.info? t=some i∧i.size=u.sz∧i.bytes=C.bytes t∧i.zero=some (toV u (cells u u.dflt u.zg)):=by
 obtain ⟨ti,_,rfl,hok,_,hb⟩:=Zbu hT ht;obtain ⟨i,h1,h2,h3,h4⟩:=hok.info;exact ⟨i,h1,h2,by rw[h3,hb],h4⟩
theorem Zbb (u:Ty):(toV u (cells u u.dflt u.zg)).cells=(cells u u.dflt u.zg).toArray:=Zav (ZaW (default:World) (fun _ _=>True) u).1
theorem Zkj {w:World} {b:Nat} {e:TypeId} {s:Nat} {v:Value} {n:Nat} {xs:List Value} (h:w.ownsRow b e s v n xs) {k:Nat} (hk:v.ownBlock=some k):k<w.heap.size:=(h.lt k hk).2
theorem ZpF {w:World} {t:Ty} {e:TypeId} {s:Nat} {v:Value} {n:Nat} {xs:List Value} (h:OwnR w t e s v n xs) {k:Nat} (hk:v.ownBlock=some k):k<w.heap.size:=by
 rcases h.2 with ⟨rfl,_⟩ | ⟨g,cap,cur,rfl,⟨fr,_,hh⟩,_⟩
 ·cases hk
 ·cases hk
  exact (Array.getElem?_eq_some_iff.1 hh).1
theorem Zjg {E:Env} {st:St} {a:Act} {w w':World} {d:Nat} {e:TypeId} {u:Ty} {q:Perm} {zs:List u.den} {gs:Nat→Gh} {v:Value} (hS:Sim w0 F0 T0 E st a w) (hfit:Fits st) (hd:d<st.regs.length)
  (hg:w.grownBy w' none) (hown:OwnR w' u e u.sz v zs.length (catN (fun i=>cells u (zs.getD i u.dflt) (gs i)) zs.length)) (hv:∀k,v.ownBlock=some k→w.heap.size≤k)
  (hz:∀i,i<zs.length→Holds w (Tch T0 E st.blk w) u q (zs.getD i u.dflt) (gs i)) (hf:∀i,i<zs.length→foot u q (zs.getD i u.dflt) (gs i)=[]):
  ∃E',Sim w0 F0 T0 E' (({ r:= .vw d [],upd:=[(d,some ⟨false,false, .own q, .slice e u,zs⟩)],kill:=[.all d] }:Eff).apply (some d) st) (a.put (some d) v) w':=by
 have hdN:st.blks.length≠d:=by rw[hfit.len];omega
 obtain ⟨m1,k1⟩:=hS.mem.rowed (h:=d) (h2:=st.blks.length) hdN (e:=e) (q:=q) (v:=v) (row:=none) (by simp) hg hown (fun k hk=> .inr ⟨hv k hk,ZpF hown hk⟩) hz (by simp) (fun i hi k hk=>by rw[hf i hi] at hk;cases hk)
  (by rw[Zbj hf];simp)
 have hfin:setB (setB st.blk st.blks.length none) d (some ⟨false,false, .own q, .slice e u,zs⟩)=setB st.blk d (some ⟨false,false, .own q, .slice e u,zs⟩):=by
  rw[ZaO (f:=st.blk) (a:=st.blks.length) (x:=none) (Zj st 0)]
 rw[hfin] at m1 k1;refine ⟨_,hS.step (blk':=setB st.blk d (some ⟨false,false, .own q, .slice e u,zs⟩)) (fun c o h=> ?_) (Zq _ _ _) m1 (Zm d _ k1 (fun i hi=>Zl _ _ hi) (fun _ _=>rfl)) ?_⟩
 ·simp at h;rw[hfit.len];omega
 ·exact ⟨⟨false,false, .own q, .slice e u,zs⟩,⟨.slice e u, .own q,zs⟩,setB_same _ _ _,Zp _ _ _,trivial,by simp [ghAt,toV,Ty.agg,cells,Gh.head]⟩
theorem Zf9 {E:Env} {st:St} {a:Act} {w w':World} {d:Nat} {e:TypeId} {u:Ty} {q:Perm} {zs:List u.den} {gs:Nat→Gh} {v:Value} (hS:Sim w0 F0 T0 E st a w) (hfit:Fits st) (hd:d<st.regs.length)
  (hg:w.grownBy w' none) (hown:w'.ownsRow 0 e u.sz v zs.length (catN (fun i=>cells u (zs.getD i u.dflt) (gs i)) zs.length)) (hv:∀k,v.ownBlock=some k→w.heap.size≤k)
  (hz:∀i,i<zs.length→Holds w (Tch T0 E st.blk w) u q (zs.getD i u.dflt) (gs i)) (hf:∀i,i<zs.length→foot u q (zs.getD i u.dflt) (gs i)=[]):
  ∃E',Sim w0 F0 T0 E' (({ r:= .vw d [],upd:=[(d,some ⟨false,false, .own q, .slice e u,zs⟩)],kill:=[.all d] }:Eff).apply (some d) st) (a.put (some d) v) w':=
 Zjg hS hfit hd hg (OwnR.of hown) hv hz hf
theorem Zjh {a:Act} {x y:Operand} (h:sameOpd x y=true):a.eval x=a.eval y:=by
 unfold sameOpd at h;split at h
 ·simp at h;rw[h]
 ·simp at h;rw[h]
 ·cases h
theorem Zji {E:Env} {st:St} {a:Act} {w:World} {o:Oper} {t:TypeId} {n m:Operand} {pl:Plan} (hT:TabOk P C) (hS:Sim w0 F0 T0 E st a w) (hfit:Fits st) (hd:∀d,o.dst=some d→d<st.regs.length) (ho:o.op= .makeSlice t n m) (hp:plan0 C st o=some pl):PlanDoes P w0 F0 T0 o st a w pl:=by
 unfold plan0 at hp;rw[ho] at hp;simp only at hp;have hn:=Zr hS n;split at hp
 case h_2=>cases hp
 rename_i d e u n' hdst hty hreg;rw[hreg] at hn;have en:=ZaX hn;split at hp
 case isFalse=>cases hp
 rename_i hsame;cases hp;intro hb;simp only[mkB,Xh,Xi] at hb;obtain ⟨hd1,hd2⟩:=Z2 hT hty;obtain ⟨i,i1,i2,i3,i4⟩:=Ziq hT hd2;have hpos:=ZdQ hT hd2;have hnn:n'=((n'.toNat:Nat):Int):=(Int.toNat_of_nonneg hb.1).symm;have hbytes:i.bytes*n'.toNat≤281474976710656:=by rw[i3,Nat.mul_comm];omega
 have h63:n'.toNat≤maxLen:=by
  have h1:=hb.2.1;rw[hnn] at h1;simp only[maxLen];omega
 obtain ⟨w',hr,h1,h2⟩:=run_make_full (P:=P) w 0 t e i _ u.sz hd1 i1 i4 i2 .i64 .i64 n'.toNat hbytes h63 (Nat.zero_le _);have hZ:=Za u u.dflt u.zg;have hmc:(madeCells (toV u (cells u u.dflt u.zg)).cells (n'.toNat*u.sz)).toList=catN (fun _=>cells u u.dflt u.zg) n'.toNat:=by
  have:=ZdR (cells u u.dflt u.zg) (by omega) n'.toNat;rw[hZ] at this;rw[Zbb];exact this
 rw[hmc] at h1;have hget:∀i,(List.replicate n'.toNat u.dflt).getD i u.dflt=u.dflt:=fun i=>by simp [List.getD_eq_getElem?_getD,List.getElem?_replicate];split<;>rfl
 have hcat:catN (fun i=>cells u ((List.replicate n'.toNat u.dflt).getD i u.dflt) u.zg) (List.replicate n'.toNat u.dflt).length=catN (fun _=>cells u u.dflt u.zg) n'.toNat:=by
  rw[List.length_replicate];exact Za8 (fun i _=>by rw[hget])
 obtain ⟨E',hE⟩:=Zf9 (d:=d) (e:=e) (u:=u) (q:=u.zp) (zs:=List.replicate n'.toNat u.dflt) (gs:=fun _=>u.zg) (v:= .slice (some ⟨w.heap.size,0,none⟩) n'.toNat n'.toNat) hS hfit (hd d hdst) h2 (by rw[hcat,List.length_replicate];exact h1) (fun k hk=>by simp only[Value.ownBlock,Option.some.injEq] at hk;omega)
  (fun i _=>by rw[hget];exact (ZaW w _ u).1) (fun i _=>by rw[hget];exact (ZaW w (fun _ _=>True) u).2)
 rw[←hdst] at hE;refine Does.value (v:= .slice (some ⟨w.heap.size,0,none⟩) n'.toNat n'.toNat) ?_ hE;have em:a.eval m= .int .i64 n':=by rw[←Zjh hsame];exact en
 rw[←hnn] at hr;simp only[execOp,ho,en,em,Sem.run_bind,hr,Result.andThen_ok];rfl
theorem ZcH (st:St):∀l:List (Nat×Operand),partsOf.go st l=l.map fun p=>(p.1,st.opd p.2)
 | []=>rfl
 | (i,x)::l=>by simp [partsOf.go,ZcH st l]
theorem Zjj {E:Env} {st:St} {w:World} {T:TypeId→Nat→Prop} {blk:Nat→Option Blk} {U:List (Nat×Option Blk)} {t:Ty} {r:Reg} {c:Perm×t.den} {v:Value} (hm:∀b k,blk b=some k→BlkOk E w T b k) (hU:∀b k,st.blkU U b=some k→blk b=some k) (hf:t.flat=true)
  (hc:contAs st U t r=some c) (hr:RegOk E w T blk r v):∃g,v=toV t (cells t c.2 g)∧∀(w':World) (T':TypeId→Nat→Prop) (p:Perm),Holds w' T' t p c.2 g:=by
 unfold contAs at hc;cases r with
 | undef=>simp [contOf,Reg.cont] at hc
 | no=>simp [contOf,Reg.cont] at hc
 | ptr b s=>simp [contOf,Reg.cont] at hc
 | rp t x=>simp [contOf,Reg.cont] at hc
 | fn f=>simp [contOf,Reg.cont] at hc
 | tup b n=>simp [contOf,Reg.cont] at hc
 | nilS=>
  simp only[contOf] at hc;cases t with
  | slice e u'=>simp [Ty.flat] at hf
  | _=>simp at hc
 | val t' x=>
  simp only[contOf,Reg.cont] at hc;split at hc
  case isFalse=>cases hc
  rename_i he;subst he;cases hc;obtain ⟨g,h1,h2⟩:=hr;exact ⟨g,h2,fun w' T' p=>ZaF _ _ _ _ _ hf h1⟩
 | sl b s lo n=>
  simp only[contOf,Reg.cont] at hc;split at hc
  ·rename_i c' hc'
   split at hc
   case isFalse=>cases hc
   rename_i he;split at hc'
   ·split at hc'
    ·cases hc';simp only at he;subst he;simp [Ty.flat] at hf
    ·cases hc'
   ·cases hc'
  ·cases hc
 | vw b s=>
  simp only[contOf,Reg.cont] at hc;cases hb:st.blkU U b with
  | none=>rw[hb] at hc;simp at hc
  | some k=>
   rw[hb] at hc;simp only at hc;obtain ⟨k',y',q1,q2,q3,q4⟩:=hr;have hbb:=hU b k hb;rw[hbb] at q1;cases q1;rw[q2] at hc;simp only at hc;split at hc
   case isFalse=>cases hc
   rename_i he;subst he;cases hc;exact ⟨_,q4,fun w' T' p=>ZaF _ _ _ _ _ hf (ZD _ _ _ _ _ _ (hm b k hbb).holds q3 q2)⟩
theorem ZhB {E:Env} {st:St} {a:Act} {w:World} {u:Ty} (hS:Sim w0 F0 T0 E st a w) (hf:u.flat=true) (N:Nat):∀(ps:List (Nat×Operand)) (n:Nat) (zs:List u.den) (cs:List Value),flatRow st u n (partsOf.go st ps)=some zs→n+ps.length=N→cs.length=N*u.sz→
  zs.length=ps.length∧∃gs:Nat→Gh,(∀i,i<zs.length→∀(w':World) (T':TypeId→Nat→Prop) (p:Perm),Holds w' T' u p (zs.getD i u.dflt) (gs i))∧
   ∃cs':List Value,Instr.fill (fun i=>some (i*u.sz,u.sz)) cs.toArray (ps.map fun p=>(p.1,a.eval p.2))=some cs'.toArray∧cs'.length=cs.length∧
    (∀m,m<n*u.sz→cs'[m]? =cs[m]?)∧∀i j,i<zs.length→j<u.sz→cs'[(n+i)*u.sz+j]? =(cells u (zs.getD i u.dflt) (gs i))[j]?
 | [],n,zs,cs,h,_,_=>by
  simp only[partsOf.go,flatRow,Option.some.injEq] at h;subst h;exact ⟨rfl,fun _=> .leaf,by simp,cs,by simp [Instr.fill],rfl,fun _ _=>rfl,by simp⟩
 | (i,x)::ps,n,zs,cs,h,hN,hcs=>by
  simp only[partsOf.go,flatRow] at h;split at h
  case isFalse=>cases h
  rename_i hi;subst hi;split at h
  case h_2=>cases h
  rename_i c hc;split at h
  case h_2=>cases h
  rename_i z hz;cases h;obtain ⟨g,hv,hg⟩:=Zjj (st:=st) (U:=[]) hS.mem.blks (fun b k h=>h) hf hc (Zr hS x);have hcv:(a.eval x).cells=(cells u c.2 g).toArray:=by rw[hv];exact Zav (hg w (fun _ _=>True) .ro)
  have hle:(i+1)*u.sz≤N*u.sz:=Nat.mul_le_mul_right _ (by simp at hN;omega)
  rw[Nat.add_mul] at hle;have hl:=Za u c.2 g;have hstep:=Zdd (place:=fun i=>some (i*u.sz,u.sz)) (cs:=cs) (i:=i) (rest:=ps.map fun p=>(p.1,a.eval p.2)) rfl hcv hl (by omega)
  have hsl:(spl cs (i*u.sz) (cells u c.2 g)).length=cs.length:=ZbI (by omega);obtain ⟨h1,gs,h2,cs',h3,h4,h5,h6⟩:=ZhB hS hf N ps (i+1) z (spl cs (i*u.sz) (cells u c.2 g)) hz (by simp at hN;omega) (by rw[hsl];exact hcs)
  refine ⟨by simp [h1],fun m=>if m=0 then g else gs (m - 1),fun m hm w' T' p=> ?_,cs',by simp only[List.map_cons];rw[hstep];exact h3,by rw[h4,hsl],fun m hm=> ?_,fun m j hm hj=> ?_⟩
  ·cases m with
   | zero=>exact hg w' T' p
   | succ m=>simpa using h2 m (by simpa using hm) w' T' p
  ·rw[h5 m (by rw[Nat.add_mul];omega),ZbQ (by omega),if_neg (by omega)]
  ·cases m with
   | zero=>
    rw[Nat.add_zero,h5 _ (by rw[Nat.add_mul];omega),ZbQ (by omega),if_pos (by omega)]
    simp
   | succ m=>
    have:=h6 m j (by simpa using hm) hj;rw[show i+1+m=i+(m+1) by omega] at this
    simpa using this
theorem Zjk {E:Env} {st:St} {a:Act} {w:World} {u:Ty} (hS:Sim w0 F0 T0 E st a w) (N:Nat):∀(ps:List (Nat×Operand)) (n:Nat) (zs:List u.den) (cs:List Value),valRow u n (partsOf.go st ps)=some zs→n+ps.length=N→cs.length=N*u.sz→
  zs.length=ps.length∧∃gs:Nat→Gh,(∀i,i<zs.length→Holds w (Tch T0 E st.blk w) u .ro (zs.getD i u.dflt) (gs i))∧
   ∃cs':List Value,Instr.fill (fun i=>some (i*u.sz,u.sz)) cs.toArray (ps.map fun p=>(p.1,a.eval p.2))=some cs'.toArray∧cs'.length=cs.length∧
    (∀m,m<n*u.sz→cs'[m]? =cs[m]?)∧∀i j,i<zs.length→j<u.sz→cs'[(n+i)*u.sz+j]? =(cells u (zs.getD i u.dflt) (gs i))[j]?
 | [],n,zs,cs,h,_,_=>by
  simp only[partsOf.go,valRow,Option.some.injEq] at h;subst h;exact ⟨rfl,fun _=> .leaf,by simp,cs,by simp [Instr.fill],rfl,fun _ _=>rfl,by simp⟩
 | (i,x)::ps,n,zs,cs,h,hN,hcs=>by
  simp only[partsOf.go] at h;have hxo:=Zr hS x;cases hr:st.opd x with
  | val t y=>
   rw[hr] at h hxo;simp only[valRow] at h;split at h
   case isFalse=>cases h
   rename_i hi;subst hi;split at h
   case isFalse=>cases h
   rename_i htu;subst htu;split at h
   case h_2=>cases h
   rename_i z hz;cases h;obtain ⟨g,hg,hv⟩:=hxo;have hcv:(a.eval x).cells=(cells t y g).toArray:=by rw[hv];exact Zav hg
   have hle:(i+1)*t.sz≤N*t.sz:=Nat.mul_le_mul_right _ (by simp at hN;omega)
   rw[Nat.add_mul] at hle;have hl:=Za t y g;have hstep:=Zdd (place:=fun i=>some (i*t.sz,t.sz)) (cs:=cs) (i:=i) (rest:=ps.map fun p=>(p.1,a.eval p.2)) rfl hcv hl (by omega)
   have hsl:(spl cs (i*t.sz) (cells t y g)).length=cs.length:=ZbI (by omega);obtain ⟨h1,gs,h2,cs',h3,h4,h5,h6⟩:=Zjk hS N ps (i+1) z (spl cs (i*t.sz) (cells t y g)) hz (by simp at hN;omega) (by rw[hsl];exact hcs)
   refine ⟨by simp [h1],fun m=>if m=0 then g else gs (m - 1),fun m hm=> ?_,cs',by simp only[List.map_cons];rw[hstep];exact h3,by rw[h4,hsl],fun m hm=> ?_,fun m j hm hj=> ?_⟩
   ·cases m with
    | zero=>simpa [castTo] using hg
    | succ m=>simpa using h2 m (by simpa using hm)
   ·rw[h5 m (by rw[Nat.add_mul];omega),ZbQ (by omega),if_neg (by omega)]
   ·cases m with
    | zero=>
     rw[Nat.add_zero,h5 _ (by rw[Nat.add_mul];omega),ZbQ (by omega),if_pos (by omega)]
     simp [castTo]
    | succ m=>
     have:=h6 m j (by simpa using hm) hj;rw[show i+1+m=i+(m+1) by omega] at this
     simpa using this
  | _=>rw[hr] at h;simp [valRow] at h
theorem ZbR {f:Nat→List Value} {s:Nat} {n:Nat} {cs:List Value} (hf:∀i,i<n→(f i).length=s) (hs:0<s) (hl:cs.length=n*s) (h:∀i j,i<n→j<s→cs[i*s+j]? =(f i)[j]?):cs=catN f n:=by
 apply List.ext_getElem?;intro m;have hlen:=ZR hf;by_cases hm:m<n*s
 ·have hi:m / s<n:=Nat.div_lt_of_lt_mul (by rwa [Nat.mul_comm])
  have hj:m % s<s:=Nat.mod_lt _ hs;have e:m / s*s+m % s=m:=by rw[Nat.mul_comm];exact Nat.div_add_mod m s
  have h1:=h (m / s) (m % s) hi hj;have h2:=Zdv hf (m / s) (m % s) hi hj;rw[e] at h1 h2;rw[h1,h2]
 ·rw[List.getElem?_eq_none (by omega),List.getElem?_eq_none (by omega)]
end
end Go.Rx
namespace Go.Rx
noncomputable section
open Go.RowKit
variable {P:Program} {C:Ctx} {w0:World} {F0:List Nat} {T0:TypeId→Nat→Prop}
theorem Zbk (hT:TabOk P C) {t e:TypeId} {u:Ty} (hty:C.ty t=some (.slice e u)) (w:World) (n:Nat) (parts:Array (Nat×Value)) (cs:List Value) (hn:n*u.sz≤16777216)
  (hfill:Instr.fill (fun i=>some (i*u.sz,u.sz)) (catN (fun _=>cells u u.dflt u.zg) n).toArray parts.toList=some cs.toArray) (hcs:cs.length=n*u.sz):
  ∃w',(Instr.buildSlice t n parts).run P w= .ok (.slice (some ⟨w.heap.size,0,none⟩) n n) w'∧w'.ownsRow 0 e u.sz (.slice (some ⟨w.heap.size,0,none⟩) n n) n cs∧w.grownBy w' none:=by
 obtain ⟨hd1,hd2⟩:=Z2 hT hty;have hpos:=ZdQ hT hd2;have hzero:=Zem hT hd2 w;have hZ:=Za u u.dflt u.zg;have hmc:=ZdR (cells u u.dflt u.zg) (by omega) n;rw[hZ] at hmc;have hnm:n≤maxLen:=by
  have:n*1≤n*u.sz:=Nat.mul_le_mul_left n hpos;simp only[maxLen];omega
 refine ⟨w.alloc (.cells cs.toArray e), ?_,by simpa using World.ownsRow_lit (base:=0) w cs.toArray n (Nat.zero_le _) hnm (by simpa using hcs),World.grownBy_alloc w _ none⟩;unfold Instr.buildSlice;simp only[Sem.run_bind,run_underlying hd1,Result.andThen_ok,ZT hT hd2];rw[if_neg (by omega)];by_cases h0:n*u.sz=0
 ·have hn0:n=0:=by
   rcases Nat.mul_eq_zero.1 h0 with h | h
   ·exact h
   ·omega
  subst hn0;simp only[catN] at hfill;have e0:((Array.range (0*u.sz)).map fun x=>(#[]:Array Value)[x % (#[]:Array Value).size]!)=([]:List Value).toArray:=by simp
  rw[if_pos h0];rw[Sem.run_bind,show (pure #[]:Sem (Array Value)).run P w= .ok #[] w from rfl];simp only[Result.andThen_ok];rw[e0,hfill];simp [newRow]
 ·rw[if_neg h0]
  simp only[Sem.run_bind,hzero,Sem.run_pure,Result.andThen_ok,Zbb];have e1:(Array.range (n*u.sz)).map (fun x=>(cells u u.dflt u.zg).toArray[x % (cells u u.dflt u.zg).toArray.size]!)=(catN (fun _=>cells u u.dflt u.zg) n).toArray:=by
   rw[←Array.toList_inj];exact hmc
  rw[e1,hfill];simp [newRow]
theorem ZpG {st:St} (hfit:Fits st) {d:Nat} (hd:d<st.regs.length):st.blks.length≠d:=by rw[hfit.len];omega
theorem ZbJ (a:Act) (ps:Array (Nat×Operand)):(ps.map fun (i,x)=>(i,a.eval x)).toList=ps.toList.map fun p=>(p.1,a.eval p.2):=by simp
theorem ZmM (a b:Perm) (ha:a.noDead=true) (hb:b.noDead=true):(Perm.mk a b).noDead=true:=by
 cases a<;>cases b<;>simp_all [Perm.mk,Perm.noDead]
theorem Zeq:∀t:Ty,t.zp.noDead=true
 | .int _ | .bool | .str | .err | .arr _ _=>rfl
 | .prod a b=>ZmM _ _ (Zeq a) (Zeq b)
 | .slice _ t=>Zeq t
theorem Sim.freeze {E:Env} {st:St} {a:Act} {w:World} {d:Nat} {t:Ty} {p:Perm} {x:t.den} (hT0:∀(e:TypeId) k,w0.heap.size≤k∨k∈F0→T0 e k) (hfit:Fits st) (hd:d<st.regs.length) (hnd:p.noDead=true)
  (hS:Sim w0 F0 T0 E (({ r:= .vw d [],upd:=[(d,some ⟨false,false,p,t,x⟩)],kill:=[.all d] }:Eff).apply (some d) st) a w):
  Sim w0 F0 T0 E (({ r:= .val t x,upd:=[(d,none)],kill:=[.all d] }:Eff).apply (some d) st) a w:=by
 have hlt:d<st.blks.length:=by rw[hfit.len];exact hd
 have hb1:(({ r:= .vw d [],upd:=[(d,some ⟨false,false,p,t,x⟩)],kill:=[.all d] }:Eff).apply (some d) st).blk=setB st.blk d (some ⟨false,false,p,t,x⟩):=by
  rw[Zgu _ _ _ (fun c o h=>by simp at h;rw[h.1];exact hlt)];exact Zq _ _ _
 have hb2:(({ r:= .val t x,upd:=[(d,none)],kill:=[.all d] }:Eff).apply (some d) st).blk=setB st.blk d none:=by
  rw[Zgu _ _ _ (fun c o h=>by simp at h;rw[h.1];exact hlt)];exact Zq _ _ _
 have hm:=hS.mem;rw[hb1] at hm;obtain ⟨m2,k2⟩:=hm.drop d;rw[ZO] at m2 k2;have hblk:setB st.blk d (some ⟨false,false,p,t,x⟩) d=some ⟨false,false,p,t,x⟩:=setB_same _ _ _;have hfoot:∀e,e∈rowTys t→∀k,k∈foot t p x (E.g d)→Tch T0 E (setB st.blk d none) w e k:=fun e _ k hk=>by
  have hf:=Zk (E:=E) hblk hk;obtain ⟨g1,g2⟩:=hm.own k ⟨d,hf⟩;refine ⟨hT0 e k g2,g1,fun ⟨i,hi⟩=> ?_⟩;by_cases e:i=d
  ·subst e;unfold feet at hi;rw[setB_same] at hi;cases hi
  ·have:k∈feet E (setB st.blk d (some ⟨false,false,p,t,x⟩)) i:=by
    unfold feet at hi ⊢;rw[Ze _ _ e] at hi ⊢;exact hi
   exact e (hm.sep.apart i d k this hf)
 have hc:=Zm (E:=E) (E':=E) (w:=w) (w':=w) (T:=Tch T0 E (setB st.blk d (some ⟨false,false,p,t,x⟩)) w) (T':=Tch T0 E (setB st.blk d none) w) (blk:=setB st.blk d (some ⟨false,false,p,t,x⟩)) d none k2 (fun _ _=>rfl) (fun _ _=>rfl);rw[ZO] at hc;refine ⟨fun i=> ?_, ?_,hS.defers,by rw[hb2];exact m2⟩
 ·rw[hb2]
  have hr:=hS.regs i;rw[hb1] at hr;have e1:(({ r:= .vw d [],upd:=[(d,some ⟨false,false,p,t,x⟩)],kill:=[.all d] }:Eff).apply (some d) st).reg i=if i=d∧d<st.regs.length then .vw d [] else killR (.all d) (st.reg i):=by
   show nth (setN (killAll [.all d] st.regs) d (.vw d [])) i .undef=_;rw[ZW,Zo,ZaC];rfl
  have e2:(({ r:= .val t x,upd:=[(d,none)],kill:=[.all d] }:Eff).apply (some d) st).reg i=if i=d∧d<st.regs.length then .val t x else killR (.all d) (st.reg i):=by
   show nth (setN (killAll [.all d] st.regs) d (.val t x)) i .undef=_;rw[ZW,Zo,ZaC];rfl
  rw[e1] at hr;rw[e2];by_cases e:i=d∧d<st.regs.length
  ·rw[if_pos e] at hr ⊢
   obtain ⟨k0,y,q1,q2,_,q4⟩:=hr;rw[setB_same] at q1;cases q1;rw[Zp] at q2;cases q2;have hgn:∀g:Gh,ghAt t g []=g:=fun g=>by cases t<;>rfl
   simp only[hgn] at q4;exact ⟨E.g d,Zax (fun i k hk=>(k2 i k hk).2) t p x (E.g d) (hm.blks d _ hblk).holds hnd hfoot,q4⟩
  ·rw[if_neg e] at hr ⊢
   have:=hc _ _ hr;have hid:killL [.all d] (killR (.all d) (st.reg i))=killR (.all d) (st.reg i):=by
    rcases Zf6 (.all d) (st.reg i) with h | h
    ·simp only[killL,h]
    ·simp only[killL,h,killR_undef]
   rw[hid] at this;exact this
 ·have:=hS.size
  simpa [Eff.apply,Zi,Zo] using this
theorem Zir {E:Env} {st:St} {a:Act} {w:World} {o:Oper} {t:TypeId} {n:Nat} {ps:Array (Nat×Operand)} {pl:Plan} (hT0:∀(e:TypeId) k,w0.heap.size≤k∨k∈F0→T0 e k) (hT:TabOk P C) (hS:Sim w0 F0 T0 E st a w) (hfit:Fits st) (hd:∀d,o.dst=some d→d<st.regs.length) (ho:o.op= .buildSlice t n ps) (hp:plan0 C st o=some pl):PlanDoes P w0 F0 T0 o st a w pl:=by
 unfold plan0 at hp;rw[ho] at hp;simp only at hp;split at hp
 case h_2=>cases hp
 rename_i d e u hdst hty;obtain ⟨hd1,hd2⟩:=Z2 hT hty;have hpos:=ZdQ hT hd2;have hZ:=Za u u.dflt u.zg;have hcl:(catN (fun _=>cells u u.dflt u.zg) n).length=n*u.sz:=ZR (fun _ _=>hZ);split at hp
 ·rename_i hflat
  split at hp
  case h_2=>cases hp
  rename_i zs hzs;split at hp
  case isFalse=>cases hp
  rename_i hcond;cases hp;have hsz:ps.toList.length=n:=by simpa using hcond.1
  obtain ⟨h1,gs,h2,cs',h3,h4,_,h6⟩:=ZhB hS hflat n ps.toList 0 zs (catN (fun _=>cells u u.dflt u.zg) n) hzs (by omega) hcl;have hlen:zs.length=n:=by omega
  have hcs:cs'=catN (fun i=>cells u (zs.getD i u.dflt) (gs i)) n:=
   ZbR (fun i _=>Za _ _ _) hpos (by omega) (fun i j hi hj=>by simpa using h6 i j (by omega) hj)
  obtain ⟨w',r1,r2,r3⟩:=Zbk hT hty w n (ps.map fun (i,x)=>(i,a.eval x)) cs' hcond.2 (by rw[ZbJ];exact h3) (by omega)
  rw[hcs] at r2
  obtain ⟨E',hE⟩:=Zf9 (d:=d) (e:=e) (u:=u) (q:=u.zp) (zs:=zs) (gs:=gs) hS hfit (hd d hdst) r3 (by rw[hlen];exact r2) (fun k hk=>by simp only[Value.ownBlock,Option.some.injEq] at hk;omega)
   (fun i hi=>h2 i hi _ _ _) (fun i _=>ZaV _ _ _ _ hflat)
  have hrun:(execOp a.eval o).run P w= .ok (.value (.slice (some ⟨w.heap.size,0,none⟩) n n)) w':=by
   simp only[execOp,ho,Sem.run_bind,r1,Result.andThen_ok];rfl
  cases C.fro d with
  | true=>
   have hE2:=hE.freeze hT0 hfit (hd d hdst) (by show Perm.noDead u.zp=true;exact Zeq u)
   rw[←hdst] at hE2;exact Does.value (v:= .slice (some ⟨w.heap.size,0,none⟩) n n) hrun hE2
  | false=>
   rw[←hdst] at hE;exact Does.value (v:= .slice (some ⟨w.heap.size,0,none⟩) n n) hrun hE
 ·split at hp
  ·rename_i hps
   cases hp;have hps0:ps.toList=[]:=by
    have:=hps;simp only[partsOf,ZcH] at this
    simpa using this
   obtain ⟨w',r1,r2,r3⟩:=Zbk hT hty w 0 (ps.map fun (i,x)=>(i,a.eval x)) [] (by omega) (by rw[ZbJ,hps0];simp [catN,Instr.fill]) (by simp)
   obtain ⟨E',hE⟩:=Zf9 (d:=d) (e:=e) (u:=u) (q:=u.zp) (zs:=([]:List u.den)) (gs:=fun _=> .leaf) hS hfit (hd d hdst) r3 (by simpa [catN] using r2) (fun k hk=>by simp only[Value.ownBlock,Option.some.injEq] at hk;omega)
    (fun i hi=>absurd hi (by simp)) (fun i hi=>absurd hi (by simp))
   rw[←hdst] at hE;refine Does.value (v:= .slice (some ⟨w.heap.size,0,none⟩) 0 0) ?_ hE;simp only[execOp,ho,Sem.run_bind,r1,Result.andThen_ok];rfl
  ·rename_i r hps
   split at hp
   case h_2=>cases hp
   rename_i c tk hc hu;split at hp
   case isFalse=>cases hp
   rename_i hsz;cases hp;obtain ⟨x,hps0,hx⟩:∃x,ps.toList=[(0,x)]∧st.opd x=r:=by
    have:=hps;simp only[partsOf,ZcH] at this;cases hl:ps.toList with
    | nil=>rw[hl] at this;simp at this
    | cons p l=>
     rw[hl] at this;obtain ⟨i,x⟩:=p;simp at this;obtain ⟨⟨rfl,h2⟩,h3⟩:=this;exact ⟨x,by rw[h3],h2⟩
   have hxo:=Zr hS x;rw[hx] at hxo;have hdN:st.blks.length≠d:=ZpG hfit (hd d hdst);obtain ⟨E1,m1,c1,hv,_,hU⟩:=Zi9 (h:=st.blks.length) hc hu hS.mem (fun b k h=>h) hxo (Zj st 0);have hh:=(m1.blks st.blks.length _ (setB_same _ _ _)).holds;have hcv:(a.eval x).cells=(cells u c.2 (E1.g st.blks.length)).toArray:=by rw[hv];exact Zav hh
   have hl:=Za u c.2 (E1.g st.blks.length);have hcl1:(catN (fun _=>cells u u.dflt u.zg) 1).length=1*u.sz:=ZR (fun _ _=>hZ);have hstep:=Zdd (place:=fun i=>some (i*u.sz,u.sz)) (cs:=catN (fun _=>cells u u.dflt u.zg) 1) (i:=0) (rest:=[]) rfl hcv hl (by omega)
   have hspl:spl (catN (fun _=>cells u u.dflt u.zg) 1) (0*u.sz) (cells u c.2 (E1.g st.blks.length))=cells u c.2 (E1.g st.blks.length):=by
    simp only[spl,Nat.zero_mul,List.take_zero,List.nil_append,Nat.zero_add];rw[hl,List.drop_eq_nil_of_le (by omega),List.append_nil]
   rw[hspl] at hstep;obtain ⟨w',r1,r2,r3⟩:=Zbk hT hty w 1 (ps.map fun (i,x)=>(i,a.eval x)) (cells u c.2 (E1.g st.blks.length)) (by omega) (by rw[ZbJ,hps0];simp only[List.map_cons,List.map_nil];rw[hstep];simp [Instr.fill]) (by omega)
   obtain ⟨m2,k2⟩:=m1.rowed (h:=d) (h2:=st.blks.length) hdN (e:=e) (u:=u) (q:=c.1) (zs:=([c.2]:List u.den)) (gs:=fun _=>E1.g st.blks.length) (v:= .slice (some ⟨w.heap.size,0,none⟩) 1 1) (row:=none) (by simp) r3 (OwnR.of (by simpa [catN] using r2))
    (fun k hk=>by simp only[Value.ownBlock,Option.some.injEq] at hk;subst hk;exact .inr ⟨Xl _,Zkj r2 rfl⟩)
    (fun i hi=>by simp at hi;subst hi;exact hh) (by simp) (fun i hi k hk=>by simp at hi;subst hi;refine .inr ?_;rw[ZE (setB_same _ _ _)];simpa using hk)
    (by simp only[List.length_cons,List.length_nil,catF,List.nil_append];exact Zac m1 (setB_same _ _ _))
   have hfin:setB (setB (setB (updF st.blk tk.1) st.blks.length (some ⟨false,false,c.1,u,c.2⟩)) st.blks.length none) d (some ⟨false,false, .own c.1, .slice e u,([c.2]:List u.den)⟩)=updF st.blk (tk.1++[(d,some ⟨false,false, .own c.1, .slice e u,([c.2]:List u.den)⟩)]):=by
    rw[ZO,ZaO (f:=updF st.blk tk.1) (a:=st.blks.length) (x:=none) (Z4 hU 0),ZN,Zq]
   rw[hfin] at m2 k2;have cc1:=Zm (E:=E1) (E':=E1) (w:=w) (w':=w) (T:=Tch T0 E1 (setB (updF st.blk tk.1) st.blks.length (some ⟨false,false,c.1,u,c.2⟩)) w) (T':=Tch T0 E1 (setB (updF st.blk tk.1) st.blks.length (some ⟨false,false,c.1,u,c.2⟩)) w) (blk:=setB (updF st.blk tk.1) st.blks.length (some ⟨false,false,c.1,u,c.2⟩)) st.blks.length none (Kept.refl _ _) (fun _ _=>rfl) (fun _ _=>rfl);have cc2:=Zm (E:=E1) (E':=⟨setG E1.g d (.row (.slice (some ⟨w.heap.size,0,none⟩) 1 1) fun _=>E1.g st.blks.length),E1.base⟩) (w:=w) (w':=w') (blk:=setB (setB (updF st.blk tk.1) st.blks.length (some ⟨false,false,c.1,u,c.2⟩)) st.blks.length none) d (some ⟨false,false, .own c.1, .slice e u,([c.2]:List u.den)⟩) k2 (fun i hi=>Zl _ _ hi) (fun _ _=>rfl);rw[hfin] at cc2;refine Does.value (v:= .slice (some ⟨w.heap.size,0,none⟩) 1 1) (E':=⟨setG E1.g d (.row (.slice (some ⟨w.heap.size,0,none⟩) 1 1) fun _=>E1.g st.blks.length),E1.base⟩) (by simp only[execOp,ho,Sem.run_bind,r1,Result.andThen_ok];rfl) (hS.step (blk':=updF st.blk (tk.1++[(d,some ⟨false,false, .own c.1, .slice e u,([c.2]:List u.den)⟩)])) (fun c' o' h'=> ?_) rfl m2 ?_ ?_)
   ·rcases List.mem_append.1 h' with h' | h'
    ·obtain ⟨k',hk'⟩:=hU c' o' h';exact ZaK hk'
    ·simp at h';rw[h'.1,hfit.len];exact hd d hdst
   ·exact Carries.dropHand (Zj st 0) (by simpa using (c1.trans cc1).trans cc2)
   ·refine ⟨⟨false,false, .own c.1, .slice e u,([c.2]:List u.den)⟩,⟨.slice e u, .own c.1,([c.2]:List u.den)⟩, ?_,Zp _ _ _,trivial, ?_⟩
    ·rw[ZN,Zq,setB_same]
    ·simp [ghAt,toV,Ty.agg,cells,Gh.head]
  ·rename_i rs hrs
   split at hp
   case h_2=>cases hp
   rename_i zs hzs;split at hp
   case isFalse=>cases hp
   rename_i hcond;cases hp;have hsz:ps.toList.length=2:=by simpa using hcond.1
   obtain ⟨h1,gs,h2,cs',h3,h4,_,h6⟩:=Zjk hS 2 ps.toList 0 zs (catN (fun _=>cells u u.dflt u.zg) 2) (by rw[←hzs];simp only[partsOf,ZcH]) (by omega) hcl
   have hlen:zs.length=2:=by omega
   have hcs:cs'=catN (fun i=>cells u (zs.getD i u.dflt) (gs i)) 2:=
    ZbR (fun i _=>Za _ _ _) hpos (by omega) (fun i j hi hj=>by simpa using h6 i j (by omega) hj)
   obtain ⟨w',r1,r2,r3⟩:=Zbk hT hty w 2 (ps.map fun (i,x)=>(i,a.eval x)) cs' hcond.2 (by rw[ZbJ];exact h3) (by omega)
   rw[hcs] at r2
   obtain ⟨E',hE⟩:=Zf9 (d:=d) (e:=e) (u:=u) (q:= .ro) (zs:=zs) (gs:=gs) hS hfit (hd d hdst) r3 (by rw[hlen];exact r2) (fun k hk=>by simp only[Value.ownBlock,Option.some.injEq] at hk;omega)
    (fun i hi=>h2 i hi) (fun i _=>foot_ro _ _ _)
   rw[←hdst] at hE;refine Does.value (v:= .slice (some ⟨w.heap.size,0,none⟩) 2 2) ?_ hE;simp only[execOp,ho,Sem.run_bind,r1,Result.andThen_ok];rfl
  ·cases hp
end
end Go.Rx
namespace Go.Rx
noncomputable section
open Go.RowKit
variable {P:Program} {C:Ctx} {w0:World} {F0:List Nat} {T0:TypeId→Nat→Prop}
theorem ZhC {α β:Type} (f:α→Sem β) (g:α→β) (w:World):∀l:List α,(∀a,a∈l→(f a).run P w= .ok (g a) w)→(l.mapM f).run P w= .ok (l.map g) w
 | [],_=>by simp [Sem.run_pure]
 | a::l,h=>by
  simp [List.mapM_cons,Sem.run_bind,h a (by simp),ZhC f g w l (fun b hb=>h b (List.mem_cons_of_mem _ hb))]
theorem Mem.merge {E:Env} {blk:Nat→Option Blk} {w:World} (hm:Mem w0 F0 T0 E blk w) {h N:Nat} {p q:Perm} {t:Ty} {x:t.den} {s:Path} {y:Sub} {z:y.ty.den} {r:Perm×t.den} (hN:blk N=some ⟨false,false,p,t,x⟩) (hh:blk h=some ⟨false,false,q,y.ty,z⟩) (hne:h≠N)
  (hi:hasIdx s=false) (hs:sub t p x s=some y) (hp:put t p x s y.ty q z=some r):
  Mem w0 F0 T0 ⟨setG E.g N (ghSet t (E.g N) s (E.g h)),E.base⟩ (setB (setB blk h none) N (some ⟨false,false,r.1,t,r.2⟩)) w∧
   Kept w (Tch T0 E blk w) w (Tch T0 ⟨setG E.g N (ghSet t (E.g N) s (E.g h)),E.base⟩ (setB (setB blk h none) N (some ⟨false,false,r.1,t,r.2⟩)) w):=by
 have hNb:=hm.blks N _ hN;have hhb:=hm.blks h _ hh;obtain ⟨h1,L,R,h4,h5⟩:=Ze8 t p x (E.g N) s y q z (E.g h) r hNb.holds hi hs hp hhb.holds;have hfN0:feet E blk N=L++foot y.ty y.p y.x (ghAt t (E.g N) s)++R:=by rw[ZE hN];simp [h4]
 have hfh0:feet E blk h=foot y.ty q z (E.g h):=by rw[ZE hh];simp
 have hfN:feet ⟨setG E.g N (ghSet t (E.g N) s (E.g h)),E.base⟩ (setB (setB blk h none) N (some ⟨false,false,r.1,t,r.2⟩)) N=L++foot y.ty q z (E.g h)++R:=by
  unfold feet;rw[setB_same];simp [h5]
 have hfh:feet ⟨setG E.g N (ghSet t (E.g N) s (E.g h)),E.base⟩ (setB (setB blk h none) N (some ⟨false,false,r.1,t,r.2⟩)) h=[]:=by
  unfold feet;rw[Ze _ _ hne,setB_same]
 have hin:∀j,j∈L++foot y.ty q z (E.g h)++R→j∈feet E blk N∨j∈feet E blk h:=fun j hj=>by
  rw[hfN0,hfh0];simp only[List.mem_append] at hj ⊢;rcases hj with (hj | hj) | hj<;>simp [hj]
 have hap:∀j,(j∈L∨j∈R)→j∉foot y.ty q z (E.g h):=fun j hj hj'=>by
  refine hne (hm.sep.apart h N j (by rw[hfh0];exact hj') ?_)
  rw[hfN0];rcases hj with hj | hj<;>simp [hj]
 have hndN:=hm.sep.nodup N;rw[hfN0] at hndN;have hndh:=hm.sep.nodup h;rw[hfh0] at hndh
 exact hm.redo (w':=w) (fun i=>i=h∨i=N)
  (fun i hi'=>by
   have n1:i≠h:=fun e=>hi' (.inl e)
   have n2:i≠N:=fun e=>hi' (.inr e)
   exact ⟨by rw[Ze _ _ n2,Ze _ _ n1],Zl _ _ n2,rfl⟩)
  (fun i hi' j hj=>by
   rcases hi' with rfl | rfl
   ·rw[hfh] at hj;cases hj
   ·rw[hfN] at hj
    rcases hin j hj with h' | h'
    ·exact .inl ⟨i, .inr rfl,h'⟩
    ·exact .inl ⟨h, .inl rfl,h'⟩)
  (fun i hi'=>by
   rcases hi' with rfl | rfl
   ·rw[hfh];simp
   ·rw[hfN]
    simp only[List.nodup_append,List.mem_append] at hndN ⊢;obtain ⟨⟨a1,a2,a3⟩,a4,a5⟩:=hndN;refine ⟨⟨a1,hndh,fun c hc d hd e=>hap c (.inl hc) (e▸hd)⟩,a4,fun c hc d hd e=> ?_⟩;rcases hc with hc | hc
    ·exact a5 c (.inl hc) d hd e
    ·exact hap d (.inr hd) (e▸hc))
  (fun i i' j hi' hi'' hj hj'=>by
   rcases hi' with rfl | rfl<;>rcases hi'' with rfl | rfl
   ·rfl
   ·rw[hfh] at hj;cases hj
   ·rw[hfh] at hj';cases hj'
   ·rfl)
  rfl rfl rfl (Xl _) (fun _ _ _=>rfl)
  (fun hK i k' hi' hk'=>by
   rcases hi' with rfl | rfl
   ·rw[Ze _ _ hne,setB_same] at hk';cases hk'
   ·rw[setB_same] at hk'
    cases hk';refine ⟨?_,by simp⟩;simp only[setG_same];exact Holds.agree _ _ _ _ h1 (fun _ _=>rfl) hK)
theorem Zgx {st:St} {U:List (Nat×Option Blk)} {t:Ty} {r:Reg} {u:List (Nat×Option Blk)×List Kill} (h:takeAs st U t r=some u) {N:Nat} (hN:st.blkU U N=none):killL u.2 (.vw N [])= .vw N []∧lookU u.1 N=none:=by
 unfold takeAs at h;split at h
 case h_2=>cases h
 rename_i c hc;unfold takeOf at h;split at h
 ·cases h;exact ⟨rfl,rfl⟩
 ·split at h
  ·cases h;exact ⟨rfl,rfl⟩
  ·split at h
   ·cases h
   ·rename_i b s hsrc
    split at h
    ·cases h
    ·rename_i k hk
     have hb:N≠b:=fun e=>by rw[e,hk] at hN;cases hN
     split at h
     ·cases h
     ·split at h
      ·cases h;simp [killL,killR,hb,lookU,Ne.symm hb]
      ·split at h
       ·cases h;simp [killL,killR,hb,lookU,Ne.symm hb]
       ·cases h
theorem Zjl {f:Nat→Option Blk} {V:List (Nat×Option Blk)} {N:Nat} {X:Option Blk} (h:lookU V N=none):updF (setB f N X) V=setB (updF f V) N X:=by
 funext i
 simp only[updF,setB];by_cases e:i=N
 ·subst e;simp [h]
 ·simp [e]
theorem Zoz {a b:Ty} {x y:(Ty.prod a b).den} {g g':Gh} (h:toV (.prod a b) (cells (.prod a b) x g)=toV (.prod a b) (cells (.prod a b) y g')):cells (.prod a b) x g=cells (.prod a b) y g':=by
 simpa [toV,Ty.agg] using h
theorem Zkk {E:Env} {st:St} {a:Act} {w:World} {ta tb:Ty} {nf:Nat} {place:Nat→Option (Nat×Nat)} (hS:Sim w0 F0 T0 E st a w)
  (hplace:∀i u,i<nf→tyAt (.prod ta tb) (fieldPath nf i)=some u→place i=some (offOf (.prod ta tb) (fieldPath nf i),u.sz)):
  ∀(ps:List (Nat×Operand)) (p:Perm) (x:(Ty.prod ta tb).den) (U:List (Nat×Option Blk)) (K:List Kill) (E1:Env) (z:Perm×(Ty.prod ta tb).den×List (Nat×Option Blk)×List Kill),
   fill st nf (partsOf.go st ps) (.prod ta tb) p x U K=some z→(∀b o,(b,o)∈U→∃k,st.blk b=some k)→
   Mem w0 F0 T0 E1 (setB (updF st.blk U) st.blks.length (some ⟨false,false,p, .prod ta tb,x⟩)) w→
   Carries K E w (Tch T0 E st.blk w) st.blk E1 w (Tch T0 E1 (setB (updF st.blk U) st.blks.length (some ⟨false,false,p, .prod ta tb,x⟩)) w) (setB (updF st.blk U) st.blks.length (some ⟨false,false,p, .prod ta tb,x⟩))→
   ∃E2,(∀b o,(b,o)∈z.2.2.1→∃k,st.blk b=some k)∧Mem w0 F0 T0 E2 (setB (updF st.blk z.2.2.1) st.blks.length (some ⟨false,false,z.1, .prod ta tb,z.2.1⟩)) w∧
    Carries z.2.2.2 E w (Tch T0 E st.blk w) st.blk E2 w (Tch T0 E2 (setB (updF st.blk z.2.2.1) st.blks.length (some ⟨false,false,z.1, .prod ta tb,z.2.1⟩)) w) (setB (updF st.blk z.2.2.1) st.blks.length (some ⟨false,false,z.1, .prod ta tb,z.2.1⟩))∧
    Instr.fill place (cells (.prod ta tb) x (E1.g st.blks.length)).toArray (ps.map fun q=>(q.1,a.eval q.2))=some (cells (.prod ta tb) z.2.1 (E2.g st.blks.length)).toArray
 | [],p,x,U,K,E1,z,h,hU,hm,hc=>by
  simp only[partsOf.go,fill,Option.some.injEq] at h;subst h;exact ⟨E1,hU,hm,hc,rfl⟩
 | (i,o)::ps,p,x,U,K,E1,z,h,hU,hm,hc=>by
  simp only[partsOf.go,fill] at h;split at h
  case isFalse=>cases h
  rename_i hi;split at h
  case h_1=>cases h
  rename_i y hy;split at h
  case h_2=>cases h
  rename_i c u hcc hu;split at h
  case h_2=>cases h
  rename_i z1 hz1;have hNone:st.blkU U st.blks.length=none:=Z4 hU 0;obtain ⟨hkN,hlN⟩:=Zgx hu hNone;have hbU:∀b k,st.blkU U b=some k→setB (updF st.blk U) st.blks.length (some ⟨false,false,p, .prod ta tb,x⟩) b=some k:=fun b k hk=>by
   have:b≠st.blks.length:=fun e=>by rw[e,hNone] at hk;cases hk
   rw[Ze _ _ this];exact hk
  have hfree1:setB (updF st.blk U) st.blks.length (some ⟨false,false,p, .prod ta tb,x⟩) (st.blks.length+1)=none:=by
   rw[Ze _ _ (by omega)];exact Z4 hU 1
  obtain ⟨E2,m2,c2,hv,_,hU2⟩:=Zi9 (h:=st.blks.length+1) hcc hu hm hbU (hc _ _ (Zr hS o)) hfree1;have hN1:=c2 (.vw st.blks.length []) (toV (.prod ta tb) (cells (.prod ta tb) x (E1.g st.blks.length))) ⟨_,⟨.prod ta tb,p,x⟩,setB_same _ _ _,Zp _ _ _,ZaD _ _,by simp [ghAt]⟩;rw[hkN] at hN1;rw[Zjl hlN,←ZN] at m2 c2 hN1;have hb1:setB (setB (updF st.blk (U++u.1)) st.blks.length (some ⟨false,false,p, .prod ta tb,x⟩)) (st.blks.length+1) (some ⟨false,false,c.1,y.ty,c.2⟩) st.blks.length=some ⟨false,false,p, .prod ta tb,x⟩:=by
   rw[Ze _ _ (by omega),setB_same]
  obtain ⟨k1,y1,e1,e2,_,e4⟩:=hN1;rw[hb1] at e1;cases e1;rw[Zp] at e2;cases e2;have hcells:=Zoz e4;simp only[ghAt] at hcells;have hst:=ZC nf i;obtain ⟨m3,k3⟩:=m2.merge hb1 (setB_same _ _ _) (by omega) hst hy hz1;have hfin:setB (setB (setB (setB (updF st.blk (U++u.1)) st.blks.length (some ⟨false,false,p, .prod ta tb,x⟩)) (st.blks.length+1) (some ⟨false,false,c.1,y.ty,c.2⟩)) (st.blks.length+1) none) st.blks.length (some ⟨false,false,z1.1, .prod ta tb,z1.2⟩)=setB (updF st.blk (U++u.1)) st.blks.length (some ⟨false,false,z1.1, .prod ta tb,z1.2⟩):=by
   have hU':∀b o,(b,o)∈U++u.1→∃k,st.blk b=some k:=fun b o hb=>by
    rcases List.mem_append.1 hb with hb | hb
    ·exact hU b o hb
    ·obtain ⟨k,hk⟩:=hU2 b o hb
     unfold St.blkU at hk;split at hk
     ·rename_i v hv'
      exact hU b _ (lookU_mem hv')
     ·exact ⟨k,hk⟩
   rw[ZO,ZaO (f:=setB (updF st.blk (U++u.1)) st.blks.length (some ⟨false,false,p, .prod ta tb,x⟩)) (a:=st.blks.length+1) (x:=none) (by rw[Ze _ _ (by omega)];exact Z4 hU' 1),ZO]
  have hU':∀b o,(b,o)∈U++u.1→∃k,st.blk b=some k:=fun b o hb=>by
   rcases List.mem_append.1 hb with hb | hb
   ·exact hU b o hb
   ·obtain ⟨k,hk⟩:=hU2 b o hb
    unfold St.blkU at hk;split at hk
    ·rename_i v hv'
     exact hU b _ (lookU_mem hv')
    ·exact ⟨k,hk⟩
  have cc1:=Zm (E:=E2) (E':=E2) (w:=w) (w':=w) (T:=Tch T0 E2 (setB (setB (updF st.blk (U++u.1)) st.blks.length (some ⟨false,false,p, .prod ta tb,x⟩)) (st.blks.length+1) (some ⟨false,false,c.1,y.ty,c.2⟩)) w) (T':=Tch T0 E2 (setB (setB (updF st.blk (U++u.1)) st.blks.length (some ⟨false,false,p, .prod ta tb,x⟩)) (st.blks.length+1) (some ⟨false,false,c.1,y.ty,c.2⟩)) w) (blk:=setB (setB (updF st.blk (U++u.1)) st.blks.length (some ⟨false,false,p, .prod ta tb,x⟩)) (st.blks.length+1) (some ⟨false,false,c.1,y.ty,c.2⟩)) (st.blks.length+1) none (Kept.refl _ _) (fun _ _=>rfl) (fun _ _=>rfl);have cc2:=Zm (E:=E2) (E':=⟨setG E2.g st.blks.length (ghSet (.prod ta tb) (E2.g st.blks.length) (fieldPath nf i) (E2.g (st.blks.length+1))),E2.base⟩) (w:=w) (w':=w) (blk:=setB (setB (setB (updF st.blk (U++u.1)) st.blks.length (some ⟨false,false,p, .prod ta tb,x⟩)) (st.blks.length+1) (some ⟨false,false,c.1,y.ty,c.2⟩)) (st.blks.length+1) none) st.blks.length (some ⟨false,false,z1.1, .prod ta tb,z1.2⟩) k3 (fun j hj=>Zl _ _ hj) (fun _ _=>rfl);rw[hfin] at m3 cc2;have hct:=((hc.trans c2).trans cc1).trans cc2;have e9:K++u.2++[Kill.all (st.blks.length+1)]++[Kill.all st.blks.length]=(K++u.2)++(Kill.all (st.blks.length+1)::[Kill.all st.blks.length]):=by simp
  rw[e9] at hct;have hcd:=Carries.dropHand (K:=K++u.2) (K2:=[]) (Zj st 0) (Carries.dropHand (K:=K++u.2) (K2:=[.all st.blks.length]) (Zj st 1) hct);rw[List.append_nil] at hcd;obtain ⟨E3,q1,q2,q3,q4⟩:=Zkk hS hplace ps z1.1 z1.2 (U++u.1) (K++u.2) _ z h hU' m3 hcd;refine ⟨E3,q1,q2,q3, ?_⟩;have hh:=(m2.blks (st.blks.length+1) _ (setB_same _ _ _)).holds;have hcv:(a.eval o).cells=(cells y.ty c.2 (E2.g (st.blks.length+1))).toArray:=by rw[hv];exact Zav hh
  obtain ⟨p1,p2⟩:=Zgw (.prod ta tb) p x (E2.g st.blks.length) (fieldPath nf i) y c.1 c.2 (E2.g (st.blks.length+1)) z1 hst hy hz1;simp only[List.map_cons];rw[hcells,Zdd (hplace i y.ty hi (Zai _ _ _ _ _ hy)) hcv (Za _ _ _) (by rw[Za];exact p2)]
  simp only[setG_same] at q4;rw[←p1];exact q4
where
 lookU_mem {U:List (Nat×Option Blk)} {b:Nat} {o:Option Blk} (h:lookU U b=some o):(b,o)∈U:=by
  induction U with
  | nil=>cases h
  | cons p U ih=>
   obtain ⟨c,o'⟩:=p;simp only[lookU] at h;cases hl:lookU U b with
   | some y=>rw[hl] at h;simp only at h;cases h;exact List.mem_cons_of_mem _ (ih hl)
   | none=>
    rw[hl] at h;simp only at h;split at h
    ·rename_i e;subst e;cases h;simp
    ·cases h
end
end Go.Rx
namespace Go.Rx
noncomputable section
open Go.RowKit
variable {P:Program} {C:Ctx} {w0:World} {F0:List Nat} {T0:TypeId→Nat→Prop}
def placeOf (t:Ty) (nf i:Nat):Option (Nat×Nat):=if i<nf then (match tyAt t (fieldPath nf i) with | some u=>some (offOf t (fieldPath nf i),u.sz) | none=>none) else none
theorem Zl6 (hT:TabOk P C) {t:TypeId} {ta tb:Ty} (hty:C.ty t=some (.prod ta tb)) (w:World) (parts:Array (Nat×Value)) (cs:List Value)
  (hfill:Instr.fill (placeOf (.prod ta tb) (C.nf t)) (cells (.prod ta tb) (Ty.dflt (.prod ta tb)) (Ty.zg (.prod ta tb))).toArray parts.toList=some cs.toArray):
  (Instr.build t parts).run P w= .ok (.agg cs.toArray) w:=by
 have hzero:=Zem hT hty w;obtain ⟨ti,hti,htt,hok,hnf,_⟩:=Zbu hT hty;have hd:=hok.desc;rw[htt] at hd;simp only[DescOk] at hd;obtain ⟨fs,hu,hsz,hf⟩:=hd;rw[hnf] at hfill
 let g:Field→Nat×Nat:=fun fl=>(fl.offset,match C.ty fl.type with | some u=>u.sz | none=>0)
 have hmap:(fs.mapM fun f=>(do pure (f.offset,←sizeOf f.type):Sem (Nat×Nat))).run P w= .ok (fs.map g) w:=by
  rw[Array.mapM_eq_mapM_toList];simp only[Sem.run_map];rw[ZhC _ g w fs.toList (fun fl hfl=> ?_)]
  ·simp [←Array.toList_map]
  ·obtain ⟨i,hi,hfi⟩:=List.getElem_of_mem hfl
   have hi':i<ti.nf:=by rw[←hsz];simpa using hi
   obtain ⟨fl',u,h1,h2,h3,h4⟩:=hf i hi';have:fl'=fl:=by
    have h5:fs[i]? =some fl:=by
     rw[←hfi];simp at hi ⊢
    rw[h1] at h5;exact Option.some.inj h5
   subst this;simp only[Sem.run_bind,ZT hT h3,Result.andThen_ok,Sem.run_pure,g,h3]
 have hplace:(fun i=>(fs.map g)[i]?)=placeOf (.prod ta tb) ti.nf:=by
  funext i
  unfold placeOf;by_cases hi:i<ti.nf
  ·obtain ⟨fl,u,h1,h2,h3,h4⟩:=hf i hi
   rw[if_pos hi,h2];simp [h1,g,h3,h4]
  ·rw[if_neg hi]
   simp;omega
 unfold Instr.build;simp only[Sem.run_bind,hzero,Result.andThen_ok,Zbb,run_underlying hu,hmap];rw[hplace,hfill];rfl
theorem ZhD {E:Env} {st:St} {a:Act} {w:World} {u:Ty} {n:Nat} (hS:Sim w0 F0 T0 E st a w) (hf:u.flat=true) (hpos:0<u.sz):∀(ps:List (Nat×Operand)) (xs zs:List u.den) (g:Gh),flatArr st u n (partsOf.go st ps) xs=some zs→Holds w (Tch T0 E st.blk w) (.arr n u) .ro xs g→
  ∃g',Holds w (Tch T0 E st.blk w) (.arr n u) .ro zs g'∧Instr.fill (fun i=>some (i*u.sz,u.sz)) (cells (.arr n u) xs g).toArray (ps.map fun p=>(p.1,a.eval p.2))=some (cells (.arr n u) zs g').toArray
 | [],xs,zs,g,h,hh=>by
  simp only[partsOf.go,flatArr,Option.some.injEq] at h;subst h;exact ⟨g,hh,rfl⟩
 | (i,x)::ps,xs,zs,g,h,hh=>by
  simp only[partsOf.go,flatArr] at h;split at h
  case h_2=>cases h
  rename_i c hc;split at h
  case isFalse=>cases h
  rename_i hi;obtain ⟨g0,hv,hg⟩:=Zjj (st:=st) (U:=[]) hS.mem.blks (fun b k h=>h) hf hc (Zr hS x);have hcv:(a.eval x).cells=(cells u c.2 g0).toArray:=by rw[hv];exact Zav (hg w (fun _ _=>True) .ro)
  simp only[Holds] at hh;have hget:∀j,(xs.set i c.2).getD j u.dflt=if j=i then c.2 else xs.getD j u.dflt:=fun j=>ZH _ _ _ _ _ (by rw[hh.1];exact hi)
  obtain ⟨g',h1,h2⟩:=ZhD hS hf hpos ps (xs.set i c.2) zs (.many fun j=>if j=i then g0 else g.at j) h (by
   simp only[Holds,List.length_set,Gh.at];refine ⟨hh.1,fun j hj=> ?_⟩;rw[hget];by_cases e:j=i
   ·subst e;simp only[if_true];exact hg _ _ _
   ·simp only[if_neg e];exact hh.2 j hj)
  refine ⟨g',h1, ?_⟩;have hlc:=Za (.arr n u) xs g;have hl:=Za u c.2 g0;have hle:(i+1)*u.sz≤n*u.sz:=Nat.mul_le_mul_right _ hi;rw[Nat.add_mul] at hle;simp only[Ty.sz] at hlc;simp only[List.map_cons];rw[Zdd (place:=fun i=>some (i*u.sz,u.sz)) rfl hcv hl (by omega)];have hspl:spl (cells (.arr n u) xs g) (i*u.sz) (cells u c.2 g0)=cells (.arr n u) (xs.set i c.2) (.many fun j=>if j=i then g0 else g.at j):=by
   show _=catN (fun j=>cells u ((xs.set i c.2).getD j u.dflt) (if j=i then g0 else g.at j)) n
   refine ZbR (s:=u.sz) (fun j _=>Za _ _ _) hpos (by rw[ZbI (by omega)];omega) (fun j m hj hm=> ?_)
   rw[ZbQ (by omega),hget];have hle':(j+1)*u.sz≤n*u.sz:=Nat.mul_le_mul_right _ hj;rw[Nat.add_mul] at hle';by_cases e:j=i
   ·subst e
    rw[if_pos (by omega)];simp
   ·simp only[if_neg e]
    have hne:¬(i*u.sz≤j*u.sz+m∧j*u.sz+m<i*u.sz+(cells u c.2 g0).length):=by
     rw[hl];intro ⟨h1,h2⟩;rcases Nat.lt_or_gt_of_ne e with h | h
     ·have:(j+1)*u.sz≤i*u.sz:=Nat.mul_le_mul_right _ h
      rw[Nat.add_mul] at this;omega
     ·have:(i+1)*u.sz≤j*u.sz:=Nat.mul_le_mul_right _ h
      rw[Nat.add_mul] at this;omega
    rw[if_neg hne];exact Zdv (f:=fun k=>cells u (xs.getD k u.dflt) (g.at k)) (fun _ _=>Za _ _ _) j m hj hm
  rw[hspl];exact h2
theorem ZoA {E:Env} {st:St} {a:Act} {w:World} {o:Oper} {t:TypeId} {ps:Array (Nat×Operand)} {pl:Plan} (hT:TabOk P C) (hS:Sim w0 F0 T0 E st a w) (hfit:Fits st) (hd:∀d,o.dst=some d→d<st.regs.length) (ho:o.op= .build t ps) (hp:plan0 C st o=some pl):PlanDoes P w0 F0 T0 o st a w pl:=by
 unfold plan0 at hp;rw[ho] at hp;simp only at hp;split at hp
 ·rename_i d ta tb hdst hty
  split at hp
  case h_2=>cases hp
  rename_i z hz;cases hp;obtain ⟨z1,z2⟩:=ZaW w (Tch T0 E st.blk w) (.prod ta tb);obtain ⟨m1,k1⟩:=hS.mem.plain st.blks.length (Zj st 0) (.prod ta tb) _ _ _ z1 z2;have c1:Carries [] E w (Tch T0 E st.blk w) st.blk _ w _ (setB (updF st.blk []) st.blks.length (some ⟨false,false,Ty.zp (.prod ta tb), .prod ta tb,Ty.dflt (.prod ta tb)⟩)):=Zae (E':=⟨setG E.g st.blks.length (Ty.zg (.prod ta tb)),E.base⟩) (Zj st 0) k1 (fun i hi=>Zl _ _ hi) (fun _ _=>rfl);obtain ⟨E2,q1,q2,q3,q4⟩:=Zkk (place:=placeOf (.prod ta tb) (C.nf t)) hS (fun i u hi hu=>by simp [placeOf,hi,hu]) ps.toList _ _ [] [] _ z hz (by simp) m1 c1;simp only[setG_same] at q4;have hrun:=Zl6 hT hty w (ps.map fun (i,x)=>(i,a.eval x)) _ (by rw[ZbJ];exact q4)
  obtain ⟨E',hE⟩:=Zjf (d:=d) hS hfit (hd d hdst) q1 q2 q3;rw[←hdst] at hE;refine Does.value (v:=toV (.prod ta tb) (cells (.prod ta tb) z.2.1 (E2.g st.blks.length))) ?_ hE;simp only[execOp,ho,Sem.run_bind,hrun,Result.andThen_ok];rfl
 ·rename_i d n u hdst hty
  split at hp
  case isFalse=>cases hp
  rename_i hflat;split at hp
  case h_2=>cases hp
  rename_i zs hzs;cases hp;obtain ⟨e,hd1,hd2⟩:=Zf8 hT hty;have hpos:=ZdQ hT hd2;obtain ⟨g',h1,h2⟩:=ZhD hS hflat hpos ps.toList (List.replicate n u.dflt) zs (Ty.zg (.arr n u)) hzs (zero_ro w _ (.arr n u));have hzero:=Zem hT hty w;refine Does.pure hS (v:=toV (.arr n u) (cells (.arr n u) zs g')) ?_ ⟨g',h1,rfl⟩;have hrun:(Instr.build t (ps.map fun (i,x)=>(i,a.eval x))).run P w= .ok (toV (.arr n u) (cells (.arr n u) zs g')) w:=by
   unfold Instr.build;simp only[Sem.run_bind,hzero,Result.andThen_ok,Zbb,run_underlying hd1,ZT hT hd2,ZbJ];have h2':Instr.fill (fun i=>some (i*u.sz,u.sz)) (cells (Ty.arr n u) (Ty.dflt (.arr n u)) (Ty.arr n u).zg).toArray (List.map (fun p=>(p.fst,a.eval p.snd)) ps.toList)=some (cells (.arr n u) zs g').toArray:=h2
   rw[h2'];rfl
  simp only[execOp,ho,Sem.run_bind,hrun,Result.andThen_ok];rfl
 ·cases hp
end
end Go.Rx
namespace Go.Rx
noncomputable section
open Go.RowKit
variable {P:Program} {C:Ctx} {w0:World} {F0:List Nat} {T0:TypeId→Nat→Prop}
theorem ZdB {E:Env} {st:St} {w:World} {blk:Nat→Option Blk} {U:List (Nat×Option Blk)} {t:Ty} {r:Reg} {c:Perm×t.den} {v:Value} (hm:Mem w0 F0 T0 E blk w) (hU:∀b k,st.blkU U b=some k→blk b=some k) (hcut:∀b s lo n,r≠ .sl b s lo n)
  (hc:contAs st U t r=some c) (hr:RegOk E w (Tch T0 E blk w) blk r v):∃g,v=toV t (cells t c.2 g)∧Holds w (Tch T0 E blk w) t c.1 c.2 g:=by
 unfold contAs at hc;cases r with
 | undef=>simp [contOf,Reg.cont] at hc
 | no=>simp [contOf,Reg.cont] at hc
 | ptr b s=>simp [contOf,Reg.cont] at hc
 | rp t x=>simp [contOf,Reg.cont] at hc
 | fn f=>simp [contOf,Reg.cont] at hc
 | tup b n=>simp [contOf,Reg.cont] at hc
 | sl b s lo n=>exact absurd rfl (hcut b s lo n)
 | nilS=>
  simp only[contOf] at hc;cases t with
  | slice e u'=>
   simp only[dite_true,Option.some.injEq] at hc;subst hc;have hv:v= .slice none 0 0:=hr;exact ⟨.row (.slice none 0 0) fun _=> .leaf,by simpa [toV,Ty.agg,cells,Gh.head] using hv,Zdb w _ e u' u'.zp⟩
  | _=>simp at hc
 | val t' x=>
  simp only[contOf,Reg.cont] at hc;split at hc
  case isFalse=>cases hc
  rename_i he;subst he;cases hc;obtain ⟨g,h1,h2⟩:=hr;exact ⟨g,by simpa [castTo] using h2,by simpa [castTo] using h1⟩
 | vw b s=>
  simp only[contOf,Reg.cont] at hc;cases hb:st.blkU U b with
  | none=>rw[hb] at hc;simp at hc
  | some k=>
   rw[hb] at hc;simp only at hc;obtain ⟨k',y',q1,q2,q3,q4⟩:=hr;have hbb:=hU b k hb;rw[hbb] at q1;cases q1;rw[q2] at hc;simp only at hc;split at hc
   case isFalse=>cases hc
   rename_i he;subst he;cases hc;exact ⟨_,q4,ZD _ _ _ _ _ _ (hm.blks b k hbb).holds q3 q2⟩
theorem Zk3 {w:World} {T:TypeId→Nat→Prop} {e:TypeId} {u:Ty} {p:Perm} {xs:List u.den} {g:Gh} (h:Holds w T (.slice e u) p xs g) (hp:p.live=true):
  ∃A cap,g.head= .slice A xs.length cap∧(A=none→xs.length=0∧cap=0)∧∀a,A=some a→MemAt w a (catN (fun i=>cells u (xs.getD i u.dflt) (g.at i)) xs.length):=by
 cases p with
 | dead=>simp [Perm.live] at hp
 | pr a b=>simp [Perm.live] at hp
 | hole z0 q=>simp [Perm.live] at hp
 | ro=>
  simp only[Holds] at h;obtain ⟨⟨A,cap,g1,g2,g3,g3',g4,g5⟩,_⟩:=h;refine ⟨A,cap,g1,fun hA=> ?_,g5⟩;have:=g3' hA;omega
 | own q=>
  simp only[Holds] at h;rcases h.1.2 with ⟨g1,g2⟩ | ⟨kk,cap,cur,g1,_,_,_⟩
  ·exact ⟨none,0,by rw[g1,g2],fun _=>⟨g2,rfl⟩,by simp⟩
  ·refine ⟨some ⟨kk,0,none⟩,cap,g1,by simp,fun a ha=> ?_⟩
   cases ha;intro j v hj;exact h.1.cells g1 j v hj
theorem Zfc (hT:TabOk P C) {t:TypeId} (h:isSlice (C.ty t)=true):∃e,P.underlying t=some (.slice e):=by
 obtain ⟨e,u,he⟩:=Zi8 h;exact ⟨e,(Z2 hT he).1⟩
theorem Zqy (hT:TabOk P C) {E:Env} {st:St} {a:Act} {w:World} {t:TypeId} {x:Operand} {r:Reg} (hS:Sim w0 F0 T0 E st a w) (h:lenReg st (C.ty t) (st.opd x)=some r) (ty:TypeId) (ts:List TypeId):
  ∃v,(Builtin.len_ (t::ts).toArray ty #[a.eval x]).run P w= .ok v w∧RegOk E w (Tch T0 E st.blk w) st.blk r v:=by
 have hx:=Zr hS x;unfold lenReg at h;split at h
 ·rename_i s hreg
  rw[hreg] at hx;split at h
  case isFalse=>cases h
  rename_i hty;cases h;have ex:=Zd1 hx;exact ⟨_,by simp [Builtin.len_,ex,run_underlying (Zio hT hty),goInt];rfl,Zaj _ _⟩
 ·rename_i hreg
  rw[hreg] at hx;split at h
  case isFalse=>cases h
  rename_i hty;cases h;obtain ⟨e,he⟩:=Zfc hT hty;have ex:a.eval x= .slice none 0 0:=hx;exact ⟨.int .i64 0,by simp [Builtin.len_,ex,run_underlying he,goInt],Zaj _ _⟩
 ·rename_i b s lo n hreg
  rw[hreg] at hx;split at h
  case isFalse=>cases h
  rename_i hty;cases h;obtain ⟨e,he⟩:=Zfc hT hty;obtain ⟨k,e',u,q,xs,_,_,_,_,A,cap,ex,_⟩:=hx;exact ⟨.int .i64 (n:Int),by simp [Builtin.len_,ex,run_underlying he,goInt],Zaj _ _⟩
 ·rename_i r' n1 n2 n3
  split at h
  case isFalse=>cases h
  rename_i hty;split at h
  case h_2=>cases h
  rename_i e' u' p xs src bor hcont;split at h
  case isFalse=>cases h
  rename_i hlive;cases h;obtain ⟨e,he⟩:=Zfc hT hty;have hcs:contAs st [] (.slice e' u') (st.opd x)=some (p,xs):=by
   have:contOf st [] (.slice e' u') (st.opd x)=some ⟨.slice e' u',p,xs,src,bor⟩:=by
    revert hcont
    cases hreg:st.opd x<;>simp_all [contOf]
   simp [contAs,this,castTo]
  obtain ⟨g,hv,hh⟩:=ZdB (st:=st) (U:=[]) hS.mem (fun b k h=>h) (fun b s lo n hh=>n3 b s lo n hh) hcs hx;obtain ⟨A,cap,hg,_⟩:=Zk3 hh hlive;have ex:a.eval x= .slice A xs.length cap:=by rw[hv];simp [toV,Ty.agg,cells,hg]
  exact ⟨_,by simp [Builtin.len_,ex,run_underlying he,goInt];rfl,Zaj _ _⟩
theorem Zpn {E:Env} {st:St} {a:Act} {w:World} (hS:Sim w0 F0 T0 E st a w) {k:IntKind}:∀(l:List Operand) (x:Int) (r:Reg),minmax imin x k (regsOf st l)=some r→
  ∃v,((l.map a.eval).foldlM Builtin.min2 (.int k x)).run P w= .ok v w∧RegOk E w (Tch T0 E st.blk w) st.blk r v
 | [],x,r,h=>by
  simp only[regsOf,minmax,Option.some.injEq] at h;subst h;exact ⟨_,by simp [Sem.run_pure],Zaj _ _⟩
 | o::l,x,r,h=>by
  simp only[regsOf] at h;have hx:=Zr hS o
  revert h hx
  cases hr:st.opd o with
  | val t y=>cases t with
   | int k'=>
    intro h hx;simp only[minmax] at h;split at h
    case isFalse=>cases h
    have ex:=ZaX hx;obtain ⟨v,h1,h2⟩:=Zpn hS l (imin x y) r h;exact ⟨v,by simp only[List.map_cons,List.foldlM_cons,ex,Builtin.min2,Sem.run_bind,Sem.run_pure,Result.andThen_ok];exact h1,h2⟩
   | _=>intro h;simp [minmax] at h
  | _=>intro h;simp [minmax] at h
theorem Zpo {E:Env} {st:St} {a:Act} {w:World} (hS:Sim w0 F0 T0 E st a w) {k:IntKind}:∀(l:List Operand) (x:Int) (r:Reg),minmax imax x k (regsOf st l)=some r→
  ∃v,((l.map a.eval).foldlM Builtin.max2 (.int k x)).run P w= .ok v w∧RegOk E w (Tch T0 E st.blk w) st.blk r v
 | [],x,r,h=>by
  simp only[regsOf,minmax,Option.some.injEq] at h;subst h;exact ⟨_,by simp [Sem.run_pure],Zaj _ _⟩
 | o::l,x,r,h=>by
  simp only[regsOf] at h;have hx:=Zr hS o
  revert h hx
  cases hr:st.opd o with
  | val t y=>cases t with
   | int k'=>
    intro h hx;simp only[minmax] at h;split at h
    case isFalse=>cases h
    have ex:=ZaX hx;obtain ⟨v,h1,h2⟩:=Zpo hS l (imax x y) r h;exact ⟨v,by simp only[List.map_cons,List.foldlM_cons,ex,Builtin.max2,Sem.run_bind,Sem.run_pure,Result.andThen_ok];exact h1,h2⟩
   | _=>intro h;simp [minmax] at h
  | _=>intro h;simp [minmax] at h
theorem ZmN {w:World} {T:TypeId→Nat→Prop} {e:TypeId} {u:Ty} {p q:Perm} {xs:List u.den} {g:Gh} (hho:Holds w T (.slice e u) p xs g) (hlive:p.live=true) (hf:¬u.flat=true) (hq:elemPerm u p=some q) (hnd:(foot (.slice e u) p xs g).Nodup):
  (∀i,i<xs.length→Holds w T u q (xs.getD i u.dflt) (g.at i))∧(∀i,i<xs.length→∀k,k∈foot u q (xs.getD i u.dflt) (g.at i)→k∈foot (.slice e u) p xs g)∧(catF (fun i=>foot u q (xs.getD i u.dflt) (g.at i)) xs.length).Nodup:=by
 cases p with
 | ro=>
  simp only[elemPerm,if_neg hf,Option.some.injEq] at hq;subst hq;simp only[Holds] at hho;exact ⟨hho.2,fun i _ k hk=>(by rw[foot_ro] at hk;cases hk),by rw[Zbj (fun i _=>foot_ro _ _ _)];simp⟩
 | own q'=>
  simp only[elemPerm,if_neg hf,Option.some.injEq] at hq;subst hq;simp only[Holds] at hho;simp only[foot,List.nodup_append] at hnd;exact ⟨hho.2,fun i hi k hk=>by simp only[foot,List.mem_append];exact .inr (Zw.2 ⟨i,hi,hk⟩),hnd.2.1⟩
 | dead=>simp [Perm.live] at hlive
 | pr p1 p2=>simp [Perm.live] at hlive
 | hole z0 q=>simp [Perm.live] at hlive
theorem ZpH {E:Env} {st:St} {w:World} {e:TypeId} {u:Ty} {b lo n:Nat} {s:Path} {c:Perm×(Ty.slice e u).den} {v:Value} (hm:Mem w0 F0 T0 E st.blk w) (hc:contAs st [] (.slice e u) (.sl b s lo n)=some c) (hr:RegOk E w (Tch T0 E st.blk w) st.blk (.sl b s lo n) v):
  ∃(gs:Nat→Gh) (A:Option Addr) (cap:Nat),v= .slice A (List.length c.2) cap∧(A=none→List.length c.2=0∧cap=0)∧(∀ad,A=some ad→MemAt w ad (catN (fun i=>cells u (List.getD c.2 i u.dflt) (gs i)) (List.length c.2)))∧
   ∀i,i<List.length c.2→∃p',Holds w (Tch T0 E st.blk w) u p' (List.getD c.2 i u.dflt) (gs i):=by
 obtain ⟨k,e',u',q,xs,h1,h2,h3,h4,A,cap,h5,h6,h7,h8,h9⟩:=hr;unfold contAs at hc;have hb0:st.blkU [] b=some k:=h1;simp only[contOf,Reg.cont,hb0,h2] at hc;split at hc
 case isFalse=>cases hc
 rename_i he;simp only[Ty.slice.injEq] at he;obtain ⟨rfl,rfl⟩:=he;cases hc;simp only[castTo];have hho:=ZD _ _ _ _ _ _ (hm.blks b k h1).holds h3 h2;simp only[Holds] at hho;obtain ⟨r1,r2⟩:=hho;have hlen:((xs.drop lo).take n).length=n:=by simp;omega
 have hget:∀i,i<n→((xs.drop lo).take n).getD i u'.dflt=xs.getD (lo+i) u'.dflt:=fun i hi=>by
  simp only[List.getD_eq_getElem?_getD,List.getElem?_take,List.getElem?_drop];rw[if_pos hi]
 refine ⟨fun i=>(ghAt k.ty (E.g b) s).at (lo+i),A,cap,by rw[hlen];exact h5,fun hA=>⟨by rw[hlen];have:=h7 hA;omega,h7 hA⟩,fun ad had=> ?_,fun i hi=> ?_⟩
 ·rw[hlen]
  by_cases hn:n=0
  ·subst hn;intro j v hj;simp [catN] at hj
  ·refine memAt_catN (h8 ad had) (fun _ _=>Za _ _ _) (fun i hi=> ?_)
   rw[hget i hi];obtain ⟨ad',had',hadd⟩:=h9 i hi;rw[had] at had';cases had';rw[hadd];obtain ⟨kk,cap',cur,hv,hbb,hbase,_,_,_,_,hx⟩:=ZS r1 (by omega);rw[hbase];exact hx.elem rfl (fun _ _=>Za _ _ _) (lo+i) (by omega)
 ·rw[hlen] at hi
  rw[hget i hi];exact ⟨q,r2 (lo+i) (by omega)⟩
theorem Zqz {E:Env} {st:St} {a:Act} {w:World} {e:TypeId} {u:Ty} {x:Operand} {c:Perm×(Ty.slice e u).den} {q:Perm} {tk:List (Nat×Option Blk)×List Kill} {h:Nat} (hS:Sim w0 F0 T0 E st a w) (hh:st.blk h=none)
  (hc:contAs st [] (.slice e u) (st.opd x)=some c) (hq:elemPerm u c.1=some q) (ht:elemTake st e u (st.opd x)=some tk):
  ∃(E1:Env) (gs:Nat→Gh) (A:Option Addr) (cap:Nat) (X:Option Blk),Mem w0 F0 T0 E1 (setB (updF st.blk tk.1) h X) w∧
   Carries tk.2 E w (Tch T0 E st.blk w) st.blk E1 w (Tch T0 E1 (setB (updF st.blk tk.1) h X) w) (setB (updF st.blk tk.1) h X)∧
   a.eval x= .slice A (List.length c.2) cap∧(A=none→List.length c.2=0∧cap=0)∧(∀ad,A=some ad→MemAt w ad (catN (fun i=>cells u (List.getD c.2 i u.dflt) (gs i)) (List.length c.2)))∧
   (∀i,i<List.length c.2→Holds w (Tch T0 E1 (setB (updF st.blk tk.1) h X) w) u q (List.getD c.2 i u.dflt) (gs i))∧
   (∀i,i<List.length c.2→∀k,k∈foot u q (List.getD c.2 i u.dflt) (gs i)→k∈feet E1 (setB (updF st.blk tk.1) h X) h)∧
   (catF (fun i=>foot u q (List.getD c.2 i u.dflt) (gs i)) (List.length c.2)).Nodup∧(∀b o,(b,o)∈tk.1→∃k,st.blk b=some k):=by
 have hlive:c.1.live=true:=by
  unfold elemPerm at hq;split at hq
  ·rename_i hp;rw[hp];rfl
  ·rename_i hp;rw[hp];rfl
  ·cases hq
 unfold elemTake at ht;by_cases hf:u.flat=true
 ·rw[if_pos hf] at ht
  have htk:tk=([],[]):=by cases ht;rfl
  subst htk;by_cases hsl:∃b s lo n,st.opd x= .sl b s lo n
  ·obtain ⟨b,s,lo,n,hxr⟩:=hsl
   have hx:=Zr hS x;rw[hxr] at hc hx;obtain ⟨gs,A,cap,p1,p2,p3,p4⟩:=ZpH hS.mem hc hx;have hX:setB (updF st.blk []) h none=st.blk:=ZaO (f:=st.blk) (a:=h) (x:=none) hh;refine ⟨E,gs,A,cap,none,by rw[hX];exact hS.mem,by rw[hX];exact Zbo (Kept.refl _ _),p1,p2,p3,fun i hi=> ?_,fun i _ k hk=> ?_, ?_,by simp⟩
   ·obtain ⟨p',hp'⟩:=p4 i hi
    exact ZaF _ _ _ _ _ hf hp'
   ·rw[ZaV _ _ _ _ hf] at hk;cases hk
   ·rw[Zbj (fun i _=>ZaV _ _ _ _ hf)];simp
  have hcut:∀b s lo n,st.opd x≠ .sl b s lo n:=fun b s lo n hx=>hsl ⟨b,s,lo,n,hx⟩
  obtain ⟨g,hv,hho⟩:=ZdB (st:=st) (U:=[]) hS.mem (fun b k h=>h) hcut hc (Zr hS x);obtain ⟨A,cap,hg,h1,h2⟩:=Zk3 hho hlive;have hX:setB (updF st.blk []) h none=st.blk:=ZaO (f:=st.blk) (a:=h) (x:=none) hh;refine ⟨E,g.at,A,cap,none,by rw[hX];exact hS.mem,by rw[hX];exact Zbo (Kept.refl _ _),by rw[hv];simp [toV,Ty.agg,cells,hg],h1,h2,fun i hi=> ?_,fun i _ k hk=> ?_, ?_,by simp⟩
  ·have:∀i,i<List.length c.2→∃p',Holds w (Tch T0 E st.blk w) u p' (List.getD c.2 i u.dflt) (g.at i):=fun i hi=>by
    revert hho
    cases hcp:c.1 with
    | ro=>intro hho;simp only[Holds] at hho;exact ⟨_,hho.2 i hi⟩
    | own q'=>intro hho;simp only[Holds] at hho;exact ⟨_,hho.2 i hi⟩
    | dead=>rw[hcp] at hlive;simp [Perm.live] at hlive
    | pr p1 p2=>rw[hcp] at hlive;simp [Perm.live] at hlive
    | hole z0 q=>rw[hcp] at hlive;simp [Perm.live] at hlive
   obtain ⟨p',hp'⟩:=this i hi;exact ZaF _ _ _ _ _ hf hp'
  ·rw[ZaV _ _ _ _ hf] at hk;cases hk
  ·rw[Zbj (fun i _=>ZaV _ _ _ _ hf)];simp
 ·rw[if_neg hf] at ht
  obtain ⟨E1,m1,c1,hv,_,hU⟩:=Zi9 (h:=h) hc ht hS.mem (fun b k h=>h) (Zr hS x) hh;have hho:=(m1.blks h _ (setB_same _ _ _)).holds;obtain ⟨A,cap,hg,h1,h2⟩:=Zk3 hho hlive;have hnd:=Zac m1 (setB_same (updF st.blk tk.1) h (some ⟨false,false,c.1, .slice e u,c.2⟩));have hff:=ZE (E:=E1) (setB_same (updF st.blk tk.1) h (some ⟨false,false,c.1, .slice e u,c.2⟩));obtain ⟨r1,r2,r3⟩:=ZmN hho hlive hf hq hnd;refine ⟨E1,(E1.g h).at,A,cap,_,m1,c1,by rw[hv];simp [toV,Ty.agg,cells,hg],h1,h2,r1,fun i hi k hk=>by rw[hff];exact List.mem_append_right _ (r2 i hi k hk),r3,hU⟩
end
end Go.Rx
namespace Go.Rx
noncomputable section
open Go.RowKit
variable {P:Program} {C:Ctx} {w0:World} {F0:List Nat} {T0:TypeId→Nat→Prop}
theorem Zer:∀(t:Ty) (x:t.den) (g:Gh),foot t .dead x g=[]
 | .int _,_,_ | .bool,_,_ | .str,_,_ | .err,_,_ | .arr _ _,_,_ | .slice _ _,_,_=>by simp [foot]
 | .prod a b,x,g=>by simp only[foot,Perm.l,Perm.r];rw[Zer a,Zer b];rfl
theorem Zfd {w:World} {T:TypeId→Nat→Prop}:∀(t:Ty) (p:Perm) (x:t.den) (g:Gh),Holds w T t p x g→Holds w T t .dead x g
 | .int _,_,_,_,_ | .bool,_,_,_,_ | .str,_,_,_,_=>by simp [Holds]
 | .err,_,_,_,h=>by simpa [Holds] using h
 | .prod a b,p,x,g,h=>by
  simp only[Holds] at h ⊢;exact ⟨Zfd a _ _ _ h.1,Zfd b _ _ _ h.2⟩
 | .arr n t,p,xs,g,h=>by simpa only[Holds] using h
 | .slice e t, .ro,xs,g,h=>by
  simp only[Holds] at h ⊢;obtain ⟨⟨A,cap,h,_⟩,_⟩:=h;exact ⟨A,_,cap,h⟩
 | .slice e t, .dead,xs,g,h=>h
 | .slice e t, .pr _ _,xs,g,h=>by simp [Holds] at h
 | .slice e t, .own q,xs,g,h=>by
  simp only[Holds] at h ⊢;obtain ⟨A,cap,h⟩:=Zb4 h.1;exact ⟨A,_,cap,h⟩
 | .slice e t, .hole _ q,xs,g,h=>by
  simp only[Holds] at h ⊢;obtain ⟨A,cap,h⟩:=Zb4 h.1;exact ⟨A,_,cap,h⟩
theorem Zjm {E E':Env} {w w':World} {T T':TypeId→Nat→Prop} {blk:Nat→Option Blk} {b h:Nat} {vr pn:Bool} {e:TypeId} {t:Ty} {p p':Perm} {xs:List t.den} {o:Option Blk} (hk:Kept w T w' T')
  (hb:blk b=some ⟨vr,pn,p, .slice e t,xs⟩) (hh:blk h=none) (hg:∀i,i≠h→E'.g i=E.g i) (hbase:E'.base=E.base):
  Carries [.inner b (.slice e t) []] E w T blk E' w' T' (setB (setB blk b (some ⟨vr,pn,p', .slice e t,xs⟩)) h o):=by
 have hbh:b≠h:=fun e=>by rw[e,hh] at hb;cases hb
 have hnew:setB (setB blk b (some ⟨vr,pn,p', .slice e t,xs⟩)) h o b=some ⟨vr,pn,p', .slice e t,xs⟩:=by rw[Ze _ _ hbh,setB_same]
 have hoth:∀c k,c≠b→blk c=some k→c≠h∧setB (setB blk b (some ⟨vr,pn,p', .slice e t,xs⟩)) h o c=some k:=fun c k h1 h2=>by
  have h3:c≠h:=fun e=>by rw[e,hh] at h2;cases h2
  exact ⟨h3,by rw[Ze _ _ h3,Ze _ _ h1];exact h2⟩
 intro rg v hr;cases rg with
 | val t' x=>exact hr.val_kept hk
 | rp t' x=>exact hr.rp_kept hk
 | vw c q=>
  simp only[killL,killR];obtain ⟨k,y,h1,h2,h3,h4⟩:=hr;by_cases e1:c=b
  ·subst e1
   rw[if_pos rfl];rw[hb] at h1;cases h1;cases q with
   | nil=>
    rw[Zp] at h2;cases h2;simp only[extIn,hasIdx,Bool.false_eq_true,if_false];exact ⟨_,⟨.slice e t,p',xs⟩,hnew,Zp _ _ _,ZaD _ _,by rw[hg _ hbh];exact h4⟩
   | cons f q'=>
    cases f with
    | idx i=>simp only[extIn,hasIdx,if_true];trivial
    | fst=>cases p<;>simp [sub] at h2
    | snd=>cases p<;>simp [sub] at h2
  ·rw[if_neg e1]
   obtain ⟨h5,h6⟩:=hoth c k e1 h1;exact ⟨k,y,h6,h2,h3,by rw[hg _ h5];exact h4⟩
 | sl c q lo n=>
  simp only[killL,killR];by_cases e1:c=b
  ·rw[if_pos e1];trivial
  ·rw[if_neg e1]
   obtain ⟨k,e0,u0,q0,xs0,h1,h2,h3,h4,h7⟩:=hr;obtain ⟨h5,h6⟩:=hoth c k e1 h1;exact ⟨k,e0,u0,q0,xs0,h6,h2,h3,h4,by rw[hg _ h5];exact h7⟩
 | ptr c q=>
  simp only[killL,killR];obtain ⟨k,y,h1,h2,h3,h4,h7⟩:=hr;by_cases e1:c=b
  ·subst e1
   rw[if_pos rfl];rw[hb] at h1;cases h1;cases q with
   | nil=>
    rw[Zp] at h2;cases h2;simp only[hasIdx,Bool.false_eq_true,if_false];exact ⟨_,⟨.slice e t,p',xs⟩,hnew,Zp _ _ _,ZaD _ _,h4,by rw[hg _ hbh,hbase];exact h7⟩
   | cons f q'=>
    cases f with
    | idx i=>simp only[hasIdx,if_true];trivial
    | fst=>cases p<;>simp [sub] at h2
    | snd=>cases p<;>simp [sub] at h2
  ·rw[if_neg e1]
   obtain ⟨h5,h6⟩:=hoth c k e1 h1;exact ⟨k,y,h6,h2,h3,h4,by rw[hg _ h5,hbase];exact h7⟩
 | tup c n=>
  simp only[killL,killR];by_cases e1:c=b
  ·rw[if_pos e1];trivial
  ·rw[if_neg e1]
   obtain ⟨k,h1,h2,h3⟩:=hr;obtain ⟨h5,h6⟩:=hoth c k e1 h1;exact ⟨k,h6,h2,by rw[hg _ h5];exact h3⟩
 | _=>exact hr
theorem Mem.takeHole {E:Env} {blk:Nat→Option Blk} {w:World} (hm:Mem w0 F0 T0 E blk w) {b h:Nat} {vr pn:Bool} {e:TypeId} {t:Ty} {q:Perm} {xs:List t.den} {i:Nat} (hb:blk b=some ⟨vr,pn, .own q, .slice e t,xs⟩) (hh:blk h=none) (hi:i<xs.length):
  ∃E',Mem w0 F0 T0 E' (setB (setB blk b (some ⟨vr,pn, .hole i q, .slice e t,xs⟩)) h (some ⟨false,false,q,t,xs.getD i t.dflt⟩)) w∧
   Carries [.inner b (.slice e t) []] E w (Tch T0 E blk w) blk E' w (Tch T0 E' (setB (setB blk b (some ⟨vr,pn, .hole i q, .slice e t,xs⟩)) h (some ⟨false,false,q,t,xs.getD i t.dflt⟩)) w) (setB (setB blk b (some ⟨vr,pn, .hole i q, .slice e t,xs⟩)) h (some ⟨false,false,q,t,xs.getD i t.dflt⟩))∧
   E'.g h=(E.g b).at i∧E'.base=E.base∧(∀j,j≠b→j≠h→E'.g j=E.g j)∧Kept w (Tch T0 E blk w) w (Tch T0 E' (setB (setB blk b (some ⟨vr,pn, .hole i q, .slice e t,xs⟩)) h (some ⟨false,false,q,t,xs.getD i t.dflt⟩)) w):=by
 have hbh:b≠h:=fun e=>by rw[e,hh] at hb;cases hb
 have hbk:=hm.blks b _ hb;have hho:=hbk.holds;simp only[Holds] at hho;have hy:=hho.2 i hi
 let E':Env:=⟨setG E.g h ((E.g b).at i),E.base⟩
 have eb:E'.g b=E.g b:=Zl _ _ hbh;have eh:E'.g h=(E.g b).at i:=setG_same _ _ _;obtain ⟨A,B,hAB⟩:=Zdw hi (fun j=>foot t q (xs.getD j t.dflt) ((E.g b).at j))
 have hfb:feet E' (setB (setB blk b (some ⟨vr,pn, .hole i q, .slice e t,xs⟩)) h (some ⟨false,false,q,t,xs.getD i t.dflt⟩)) b=(if vr then [E.base b] else [])++(((E.g b).head.ownBlock.toList++A)++B):=by
  unfold feet;rw[Ze _ _ hbh,setB_same];simp only[eb,foot];rw[hAB (fun j=>foot t (if j=i then .dead else q) (xs.getD j t.dflt) ((E.g b).at j)) (fun j _ hne=>by rw[if_neg hne]),if_pos rfl,Zer];simp [E',List.append_assoc]
 have hfh:feet E' (setB (setB blk b (some ⟨vr,pn, .hole i q, .slice e t,xs⟩)) h (some ⟨false,false,q,t,xs.getD i t.dflt⟩)) h=foot t q (xs.getD i t.dflt) ((E.g b).at i):=by
  unfold feet;rw[setB_same];simp only[eh];simp
 have hfb0:feet E blk b=(if vr then [E.base b] else [])++(((E.g b).head.ownBlock.toList++A)++foot t q (xs.getD i t.dflt) ((E.g b).at i)++B):=by
  rw[ZE hb];simp only[foot];rw[hAB _ (fun _ _ _=>rfl)];simp [List.append_assoc]
 have hndb:=hm.sep.nodup b;rw[hfb0] at hndb
 obtain ⟨hM,hK⟩:=hm.redo (w':=w) (E':=E') (blk':=setB (setB blk b (some ⟨vr,pn, .hole i q, .slice e t,xs⟩)) h (some ⟨false,false,q,t,xs.getD i t.dflt⟩)) (fun j=>j=b∨j=h)
  (fun j hj=>by
   have h1:j≠b:=fun e=>hj (.inl e)
   have h2:j≠h:=fun e=>hj (.inr e)
   exact ⟨by rw[Ze _ _ h2,Ze _ _ h1],Zl _ _ h2,rfl⟩)
  (fun m hm' j hj=> .inl ⟨b, .inl rfl,by
   rw[hfb0];rcases hm' with rfl | rfl
   ·rw[hfb] at hj
    simp only[List.mem_append] at hj ⊢;rcases hj with hj | (hj | hj) | hj<;>simp [hj]
   ·rw[hfh] at hj
    simp only[List.mem_append];exact .inr (.inl (.inr hj))⟩)
  (fun m hm'=>by
   rcases hm' with rfl | rfl
   ·rw[hfb]
    refine hndb.sublist (List.Sublist.append_left ?_ _);rw[List.append_assoc (as:=(E.g m).head.ownBlock.toList++A)];exact List.Sublist.append_left (List.sublist_append_right _ _) _
   ·rw[hfh]
    refine hndb.sublist ?_;refine (List.Sublist.trans ?_ (List.sublist_append_right _ _));rw[List.append_assoc (as:=(E.g b).head.ownBlock.toList++A)];exact (List.sublist_append_left _ _).trans (List.sublist_append_right _ _))
  (by
   have key:∀j,j∈(if vr then [E.base b] else [])++(((E.g b).head.ownBlock.toList++A)++B)→j∈foot t q (xs.getD i t.dflt) ((E.g b).at i)→False:=fun j h1 h2=>by
    generalize ((E.g b).head.ownBlock.toList++A)=L at hndb h1;have hn:=hndb;simp only[List.nodup_append,List.mem_append] at hn h1;obtain ⟨-,⟨⟨-,⟨-,a3⟩⟩, -,a5⟩,a6⟩:=hn;rcases h1 with h1 | h1 | h1
    ·exact a6 j h1 j (.inl (.inr h2)) rfl
    ·exact a3 j h1 j h2 rfl
    ·exact a5 j (.inr h2) j h1 rfl
   intro m m' j hm1 hm2 hj hj';rcases hm1 with rfl | rfl<;>rcases hm2 with rfl | rfl
   ·rfl
   ·rw[hfb] at hj;rw[hfh] at hj';exact (key j hj hj').elim
   ·rw[hfh] at hj;rw[hfb] at hj';exact (key j hj' hj).elim
   ·rfl)
  rfl rfl rfl (Xl _) (fun _ _ _=>rfl)
  (fun hK m k' hm' hk'=>by
   rcases hm' with rfl | rfl
   ·rw[Ze _ _ hbh,setB_same] at hk'
    cases hk';refine ⟨?_,fun hv=> ?_⟩
    ·show Holds _ _ _ _ _ (E'.g m)
     rw[eb];simp only[Holds];refine ⟨hho.1,fun j hj=> ?_⟩;by_cases e1:j=i
     ·rw[if_pos e1]
      exact Zfd _ _ _ _ (Holds.agree _ _ _ _ (hho.2 j hj) (fun _ _=>rfl) hK)
     ·rw[if_neg e1];exact Holds.agree _ _ _ _ (hho.2 j hj) (fun _ _=>rfl) hK
    ·show ∃e,w.heap[E.base m]? =some (.cells (cells (.slice _ t) xs (E'.g m)).toArray e (0,0))
     rw[eb];exact hbk.var hv
   ·rw[setB_same] at hk'
    cases hk';refine ⟨?_,by simp⟩;show Holds _ _ _ _ _ (E'.g m);rw[eh];exact Holds.agree _ _ _ _ hy (fun _ _=>rfl) hK)
 exact ⟨E',hM,Zjm hK hb hh (fun j hj=>Zl _ _ hj) rfl,eh,rfl,fun j _ h2=>Zl _ _ h2,hK⟩
theorem Mem.takeOut {E:Env} {blk:Nat→Option Blk} {w:World} (hm:Mem w0 F0 T0 E blk w) {b h:Nat} {k:Blk} {s:Path} {e:TypeId} {u:Ty} {q:Perm} {yx:List u.den} {z:(Perm×k.ty.den)×Kill} (hb:blk b=some k) (hh:blk h=none) (hs:sub k.ty k.p k.x s=some ⟨.slice e u, .own q,yx⟩) (hr:inR k.ty k.x s)
  (ho:outAt b k s ⟨.slice e u, .own q,yx⟩=some z):
  ∃E',Mem w0 F0 T0 E' (setB (setB blk b (some ⟨k.var,k.pin,z.1.1,k.ty,z.1.2⟩)) h (some ⟨false,false, .own q, .slice e u,yx⟩)) w∧
   Carries [z.2] E w (Tch T0 E blk w) blk E' w (Tch T0 E' (setB (setB blk b (some ⟨k.var,k.pin,z.1.1,k.ty,z.1.2⟩)) h (some ⟨false,false, .own q, .slice e u,yx⟩)) w) (setB (setB blk b (some ⟨k.var,k.pin,z.1.1,k.ty,z.1.2⟩)) h (some ⟨false,false, .own q, .slice e u,yx⟩))∧
   E'.g h=ghAt k.ty (E.g b) s∧E'.base=E.base∧(∀j,j≠b→j≠h→E'.g j=E.g j)∧Kept w (Tch T0 E blk w) w (Tch T0 E' (setB (setB blk b (some ⟨k.var,k.pin,z.1.1,k.ty,z.1.2⟩)) h (some ⟨false,false, .own q, .slice e u,yx⟩)) w):=by
 unfold outAt at ho;split at ho
 ·rename_i z0 hz
  cases ho;obtain ⟨E',a1,a2,a3,a4,a5,_,a7⟩:=hm.takeAt hb hh hs hr hz;exact ⟨E',a1,a2,a3,a4,a5,a7⟩
 ·split at ho
  case h_2=>cases ho
  rename_i i q0 hkp hput;cases ho;obtain ⟨vr,pn,kp,kt,kx⟩:=k;simp only at hkp hs hr;subst hkp;cases kt with
  | slice e0 t0=>
   simp only[sub] at hs;simp only[inR] at hr;injection hs with hs
   injection hs with h1 h2 h3
   subst h1;subst h2;have h3':=eq_of_heq h3;subst h3';exact hm.takeHole hb hh hr.1
  | arr n t0=>
   simp only[sub] at hs;injection hs with hs
   injection hs with h1 h2 h3
   cases h2
  | _=>simp [sub] at hs
end
end Go.Rx
namespace Go.Rx
noncomputable section
open Go.RowKit
variable {P:Program} {C:Ctx} {w0:World} {F0:List Nat} {T0:TypeId→Nat→Prop}
theorem ZoB (t:Ty) (g y:Gh):ghSet t g [] y=y:=by cases t<;>rfl
theorem Zkl {w w':World} {T:TypeId→Nat→Prop} {e:TypeId} {t:Ty} {q:Perm} {xs:List t.den} {g gz:Gh} {i:Nat} {z:t.den} (h:Holds w T (.slice e t) (.hole i q) xs g) (hi:i<xs.length) (hnd:(foot (.slice e t) (.hole i q) xs g).Nodup)
  (hT:∀k,k∈foot (.slice e t) (.hole i q) xs g→∀e,¬T e k) (hz:Holds w' T t q z gz) (hst:Stored w w' ((Value.base g.head).add (i*t.sz)) (cells t z gz)):
  Holds w' T (.slice e t) (.own q) (xs.set i z) (ghSet (.slice e t) g [.idx i] gz)∧(ghSet (.slice e t) g [.idx i] gz).head=g.head∧(∃k,Value.base g.head=⟨k,0,none⟩∧k∈foot (.slice e t) (.hole i q) xs g)∧
   ∃L R,foot (.slice e t) (.hole i q) xs g=L++R∧foot (.slice e t) (.own q) (xs.set i z) (ghSet (.slice e t) g [.idx i] gz)=L++foot t q z gz++R:=by
 simp only[Holds] at h;obtain ⟨k,cap,cur,hv,hb,hbase,hh,hc,hcm,hcs,hx⟩:=ZS h.1 (by omega);rw[hbase] at hst;have hki:k∈foot (.slice e t) (.hole i q) xs g:=by simp only[foot];rw[hb];simp
 have hTk:=hT k hki;have hgh:∀j,j≠i→(ghSet (.slice e t) g [.idx i] gz).at j=g.at j:=fun j hne=>by simp [ghSet,Gh.at,hne]
 have hghi:(ghSet (.slice e t) g [.idx i] gz).at i=gz:=by simp [ghSet,Gh.at,ZoB]
 have hhead:(ghSet (.slice e t) g [.idx i] gz).head=g.head:=by simp [ghSet,Gh.head]
 have hel:∀j,j<xs.length→j≠i→Holds w T t q (xs.getD j t.dflt) (g.at j):=fun j hj hne=>by
  have:=h.2 j hj
  rwa [if_neg hne] at this
 have hnk:∀j,j<xs.length→j≠i→k∉foot t q (xs.getD j t.dflt) (g.at j):=fun j hj hne hk=>by
  simp only[foot] at hnd;rw[hb] at hnd;simp only[Option.toList_some,List.cons_append,List.nil_append,List.nodup_cons] at hnd;exact hnd.1 (Zw.2 ⟨j,hj,by rw[if_neg hne];exact hk⟩)
 have hall:∀j,j<xs.length→MemAt w' ((⟨k,0,none⟩:Addr).add (j*t.sz)) (cells t ((xs.set i z).getD j t.dflt) ((ghSet (.slice e t) g [.idx i] gz).at j)):=fun j hj=>by
  rw[ZH _ _ _ _ _ hi];by_cases ej:j=i
  ·subst ej;rw[if_pos rfl,hghi]
   exact hst.mem (ZP _ _ rfl)
  ·rw[if_neg ej,hgh j ej]
   refine hst.apart (ZP _ _ rfl) (hx.elem rfl (fun _ _=>Za _ _ _) j hj) (.inr ?_);rw[Za,Za,ZaN,ZaN];rcases Nat.lt_or_gt_of_ne ej with e | e
   ·have:=Nat.mul_le_mul_right t.sz (show j+1≤i by omega)
    rw[Nat.add_mul] at this
    left;omega
   ·have:=Nat.mul_le_mul_right t.sz (show i+1≤j by omega)
    rw[Nat.add_mul] at this
    right;omega
 obtain ⟨fr,hfr,hh⟩:=hh;have hblock:∃cur',w'.heap[k]? =some (.cells cur' e fr)∧cur'.size=cap*t.sz:=by
  obtain ⟨c1,c2,e1,f1,e2,e3,e4,_⟩:=hst.here;rw[Zs] at e2 e3;rw[hh] at e2;simp only[Option.some.injEq,Obj.cells.injEq] at e2;obtain ⟨rfl,rfl,rfl⟩:=e2;exact ⟨c2,e3,e4.trans hcs⟩
 obtain ⟨cur',hb',hs'⟩:=hblock;have hother:∀k',k'≠k→w'.heap[k']? =w.heap[k']? :=fun k' hne=>hst.other k' (by rw[Zs];exact hne)
 refine ⟨?_,hhead,⟨k,hbase,hki⟩, ?_⟩
 ·simp only[Holds]
  rw[hhead,hv];simp only[List.length_set];refine ⟨ZdP (ZR fun _ _=>Za _ _ _) (by rw[hs',←hcs];exact hfr) hb' hc hcm hs' (memAt_catN rfl (fun _ _=>Za _ _ _) hall),fun j hj=> ?_⟩
  rw[ZH _ _ _ _ _ hi];by_cases ej:j=i
  ·subst ej;rw[if_pos rfl,hghi];exact hz
  ·rw[if_neg ej,hgh j ej]
   exact Holds.agree t _ _ _ (hel j hj ej) (fun k' hk'=>hother k' (fun e=>hnk j hj ej (e▸hk'))) (fun e' k' hk'=>⟨hother k' (fun ee=>hTk e' (ee▸hk')),hk'⟩)
 ·obtain ⟨A,B,hAB⟩:=Zdw hi (fun j=>foot t q (xs.getD j t.dflt) (g.at j))
  refine ⟨k::A,B, ?_, ?_⟩
  ·simp only[foot]
   rw[hb,hAB (fun j=>foot t (if j=i then .dead else q) (xs.getD j t.dflt) (g.at j)) (fun j _ hne=>by rw[if_neg hne]),if_pos rfl,Zer];simp
  ·simp only[foot]
   rw[hhead,hb,List.length_set,hAB (fun j=>foot t q ((xs.set i z).getD j t.dflt) ((ghSet (.slice e t) g [.idx i] gz).at j)) (fun j hj hne=>by
    rw[ZH _ _ _ _ _ hi,if_neg hne,hgh j hne])]
   rw[ZH _ _ _ _ _ hi,if_pos rfl,hghi];simp [List.append_assoc]
theorem Mem.storeHole {E:Env} {blk:Nat→Option Blk} {w w':World} (hm:Mem w0 F0 T0 E blk w) {b h:Nat} {vr pn pn2:Bool} {e:TypeId} {t:Ty} {q:Perm} {xs:List t.den} {z:t.den} {i:Nat} (hb:blk b=some ⟨vr,pn, .hole i q, .slice e t,xs⟩) (hh:blk h=some ⟨false,pn2,q,t,z⟩) (hhb:h≠b) (hi:i<xs.length)
  (hst:Stored w w' ((Value.base (E.g b).head).add (i*t.sz)) (cells t z (E.g h))):
  Mem w0 F0 T0 ⟨setG E.g b (ghSet (.slice e t) (E.g b) [.idx i] (E.g h)),E.base⟩ (setB (setB blk h none) b (some ⟨vr,pn, .own q, .slice e t,xs.set i z⟩)) w'∧
   Kept w (Tch T0 E blk w) w' (Tch T0 ⟨setG E.g b (ghSet (.slice e t) (E.g b) [.idx i] (E.g h)),E.base⟩ (setB (setB blk h none) b (some ⟨vr,pn, .own q, .slice e t,xs.set i z⟩)) w')∧
   (ghSet (.slice e t) (E.g b) [.idx i] (E.g h)).head=(E.g b).head:=by
 have hbk:=hm.blks b _ hb;have hfnd:(foot (.slice e t) (.hole i q) xs (E.g b)).Nodup:=Zac hm hb;have hin:∀j,j∈foot (.slice e t) (.hole i q) xs (E.g b)→j∈feet E blk b:=fun j hj=>Zk hb hj
 have hfh0:feet E blk h=foot t q z (E.g h):=by rw[ZE hh];simp
 have hbo:∃k,Value.base (E.g b).head=⟨k,0,none⟩∧k∈foot (.slice e t) (.hole i q) xs (E.g b):=by
  have hho:=hbk.holds;simp only[Holds] at hho;obtain ⟨k,cap,cur,hv,hob,hbase,_⟩:=ZS hho.1 (by omega);exact ⟨k,hbase,by simp only[foot];rw[hob];simp⟩
 obtain ⟨kb,hkb,hkf⟩:=hbo;have hother:∀j,j≠kb→w'.heap[j]? =w.heap[j]? :=fun j hj=>hst.other j (by rw[hkb,Zs];exact hj)
 have hkh:kb∉foot t q z (E.g h):=fun hx=>hhb (hm.sep.apart h b kb (by rw[hfh0];exact hx) (hin kb hkf))
 have hz:Holds w' (Tch T0 E blk w) t q z (E.g h):=Holds.agree _ _ _ _ (hm.blks h _ hh).holds (fun j hj=>hother j (fun e=>hkh (e▸hj))) (fun i j hj=>⟨hother j (fun ee=>hm.notT (hin kb hkf) i (ee▸hj)),hj⟩)
 obtain ⟨q1,q2,_,L,R,q4,q5⟩:=Zkl hbk.holds hi hfnd (fun j hj=>hm.notT (hin j hj)) hz hst
 have hfb:feet ⟨setG E.g b (ghSet (.slice e t) (E.g b) [.idx i] (E.g h)),E.base⟩ (setB (setB blk h none) b (some ⟨vr,pn, .own q, .slice e t,xs.set i z⟩)) b=(if vr then [E.base b] else [])++(L++foot t q z (E.g h)++R):=by
  unfold feet;rw[setB_same];simp only[setG_same,q5]
 have hfh:feet ⟨setG E.g b (ghSet (.slice e t) (E.g b) [.idx i] (E.g h)),E.base⟩ (setB (setB blk h none) b (some ⟨vr,pn, .own q, .slice e t,xs.set i z⟩)) h=[]:=by
  unfold feet;rw[Ze _ _ hhb,setB_same]
 have hfb0:feet E blk b=(if vr then [E.base b] else [])++(L++R):=by rw[ZE hb];simp only[q4]
 have hndb:=hm.sep.nodup b;have hndh:=hm.sep.nodup h;rw[hfh0] at hndh
 obtain ⟨hM,hK⟩:=hm.redo (w':=w') (E':=⟨setG E.g b (ghSet (.slice e t) (E.g b) [.idx i] (E.g h)),E.base⟩) (blk':=setB (setB blk h none) b (some ⟨vr,pn, .own q, .slice e t,xs.set i z⟩)) (fun j=>j=h∨j=b)
  (fun j hj=>by
   have h1:j≠h:=fun e=>hj (.inl e)
   have h2:j≠b:=fun e=>hj (.inr e)
   exact ⟨by rw[Ze _ _ h2,Ze _ _ h1],Zl _ _ h2,rfl⟩)
  (fun m hm' j hj=> .inl (by
   rcases hm' with rfl | rfl
   ·rw[hfh] at hj;cases hj
   ·rw[hfb] at hj
    simp only[List.mem_append] at hj;rcases hj with hj | (hj | hj) | hj
    ·exact ⟨m, .inr rfl,by rw[hfb0];simp [hj]⟩
    ·exact ⟨m, .inr rfl,by rw[hfb0];simp [hj]⟩
    ·exact ⟨h, .inl rfl,by rw[hfh0];exact hj⟩
    ·exact ⟨m, .inr rfl,by rw[hfb0];simp [hj]⟩))
  (fun m hm'=>by
   rcases hm' with rfl | rfl
   ·rw[hfh];simp
   ·rw[hfb]
    rw[hfb0] at hndb;have ap:∀j,j∈foot t q z (E.g h)→j∉feet E blk m:=fun j hj hj'=>hhb (hm.sep.apart h m j (by rw[hfh0];exact hj) hj')
    rw[hfb0] at ap;simp only[List.nodup_append,List.mem_append] at hndb ap ⊢;obtain ⟨b1,⟨b2,b5,b6⟩,b7⟩:=hndb;refine ⟨b1,⟨⟨b2,hndh,fun a ha c hc e=>ap c hc (.inr (.inl (e▸ha)))⟩,b5,fun a ha c hc=> ?_⟩,fun a ha c hc=> ?_⟩
    ·rcases ha with ha | ha
     ·exact b6 a ha c hc
     ·exact fun e=>ap a ha (.inr (.inr (e▸hc)))
    ·rcases hc with (hc | hc) | hc
     ·exact b7 a ha c (.inl hc)
     ·exact fun e=>ap c hc (.inl (e▸ha))
     ·exact b7 a ha c (.inr hc))
  (fun m m' j hm1 hm2 hj hj'=>by
   rcases hm1 with rfl | rfl<;>rcases hm2 with rfl | rfl
   ·rfl
   ·rw[hfh] at hj;cases hj
   ·rw[hfh] at hj';cases hj'
   ·rfl)
  hst.os hst.tape hst.output (by rw[hst.size];exact Xl _)
  (fun j _ hn=>hother j (fun e=>hn b (.inr rfl) (e▸hin kb hkf)))
  (fun hK m k' hm' hk'=>by
   rcases hm' with rfl | rfl
   ·rw[Ze _ _ hhb,setB_same] at hk';cases hk'
   ·rw[setB_same] at hk'
    cases hk';refine ⟨?_,fun hvv=> ?_⟩
    ·simp only[setG_same]
     exact Holds.agree _ _ _ _ q1 (fun _ _=>rfl) (fun i j hj=>⟨rfl,(hK i j hj).2⟩)
    ·simp only[setG_same]
     obtain ⟨e0,he⟩:=hbk.var hvv;refine ⟨e0, ?_⟩;have hne:E.base m≠kb:=fun hx=>by
      have hn:=hm.sep.nodup m;rw[ZE hb] at hn;simp only at hvv;simp only[hvv,if_true,List.cons_append,List.nil_append,List.nodup_cons] at hn;exact hn.1 (by rw[hx];exact hkf)
     rw[show w'.heap[E.base m]? =w.heap[E.base m]? from hother _ hne];simp only[cells,q2];exact he)
 exact ⟨hM,hK,q2⟩
end
end Go.Rx
namespace Go.Rx
noncomputable section
open Go.RowKit
variable {P:Program} {C:Ctx} {w0:World} {F0:List Nat} {T0:TypeId→Nat→Prop}
theorem Zjn {E E':Env} {w w':World} {T T':TypeId→Nat→Prop} {blk:Nat→Option Blk} {b:Nat} {vr pn:Bool} {e:TypeId} {t:Ty} {p p':Perm} {xs xs':List t.den} (hk:Kept w T w' T')
  (hb:blk b=some ⟨vr,pn,p, .slice e t,xs⟩) (hg:∀i,i≠b→E'.g i=E.g i) (hgb:(E'.g b).head=(E.g b).head) (hbase:E'.base=E.base):
  Carries [.inner b (.slice e t) []] E w T blk E' w' T' (setB blk b (some ⟨vr,pn,p', .slice e t,xs'⟩)):=by
 intro rg v hr;cases rg with
 | val t' x=>exact hr.val_kept hk
 | rp t' x=>exact hr.rp_kept hk
 | vw c q=>
  simp only[killL,killR];obtain ⟨k,y,h1,h2,h3,h4⟩:=hr;by_cases e1:c=b
  ·subst e1
   rw[if_pos rfl];rw[hb] at h1;cases h1;cases q with
   | nil=>
    rw[Zp] at h2;cases h2;simp only[extIn,hasIdx,Bool.false_eq_true,if_false];refine ⟨_,⟨.slice e t,p',xs'⟩,setB_same _ _ _,Zp _ _ _,ZaD _ _, ?_⟩;rw[h4];simp [toV,Ty.agg,cells,ghAt,hgb]
   | cons f q'=>
    cases f with
    | idx i=>simp only[extIn,hasIdx,if_true];trivial
    | fst=>cases p<;>simp [sub] at h2
    | snd=>cases p<;>simp [sub] at h2
  ·rw[if_neg e1]
   exact ⟨k,y,by rw[Ze _ _ e1];exact h1,h2,h3,by rw[hg _ e1];exact h4⟩
 | sl c q lo n=>
  simp only[killL,killR];by_cases e1:c=b
  ·rw[if_pos e1];trivial
  ·rw[if_neg e1]
   obtain ⟨k,e0,u0,q0,xs0,h1,h2,h3,h4,h7⟩:=hr;exact ⟨k,e0,u0,q0,xs0,by rw[Ze _ _ e1];exact h1,h2,h3,h4,by rw[hg _ e1];exact h7⟩
 | ptr c q=>
  simp only[killL,killR];obtain ⟨k,y,h1,h2,h3,h4,h7⟩:=hr;by_cases e1:c=b
  ·subst e1
   rw[if_pos rfl];rw[hb] at h1;cases h1;cases q with
   | nil=>
    rw[Zp] at h2;cases h2;simp only[hasIdx,Bool.false_eq_true,if_false];exact ⟨_,⟨.slice e t,p',xs'⟩,setB_same _ _ _,Zp _ _ _,ZaD _ _,h4,by rw[h7,hbase];rfl⟩
   | cons f q'=>
    cases f with
    | idx i=>simp only[hasIdx,if_true];trivial
    | fst=>cases p<;>simp [sub] at h2
    | snd=>cases p<;>simp [sub] at h2
  ·rw[if_neg e1]
   exact ⟨k,y,by rw[Ze _ _ e1];exact h1,h2,h3,h4,by rw[hg _ e1,hbase];exact h7⟩
 | tup c n=>
  simp only[killL,killR];by_cases e1:c=b
  ·rw[if_pos e1];trivial
  ·rw[if_neg e1]
   obtain ⟨k,h1,h2,h3⟩:=hr;exact ⟨k,by rw[Ze _ _ e1];exact h1,h2,by rw[hg _ e1];exact h3⟩
 | _=>exact hr
theorem ZpI {E:Env} {st:St} {a:Act} {w:World} {o:Oper} {t:TypeId} {p x:Operand} {pl:Plan} (hT:TabOk P C) (hS:Sim w0 F0 T0 E st a w) (hfit:Fits st) (ho:o.op= .store t p x) (hp:fillPlan C st t p x=some pl):PlanDoes P w0 F0 T0 o st a w pl:=by
 unfold fillPlan at hp;have hpt:=Zr hS p;have hxt:=Zr hS x;split at hp
 case h_2=>cases hp
 rename_i b j d hrp hrx;rw[hrp] at hpt;rw[hrx] at hxt;split at hp
 case h_2=>cases hp
 rename_i vr pn i q e u xs q' u' x' hkb hkd;split at hp
 ·cases hp
 rename_i hdb;split at hp
 case isFalse=>cases hp
 rename_i hu;subst hu;split at hp
 case isFalse=>cases hp
 rename_i hc;obtain ⟨rfl,hty⟩:=hc;cases hp;intro hji;obtain rfl:j=i:=of_decide_eq_true hji;obtain ⟨k1,y1,g1,g2,g3,g4,g5⟩:=hpt;rw[hkb] at g1;cases g1;simp only[sub] at g2;cases g2;simp only[inR] at g3;obtain ⟨k2,y2,x1,x2,x3,x4⟩:=hxt;rw[hkd] at x1;cases x1;rw[Zp] at x2;cases x2;have hgn:ghAt u' (E.g d) []=E.g d:=by cases u'<;>rfl
 simp only[hgn] at x4;have hh:=(hS.mem.blks d _ hkd).holds;have hcells:(a.eval x).cells=(cells u' x' (E.g d)).toArray:=by rw[x4];exact Zav hh
 have hadr:addrOf (.slice e u') (E.g b) [.idx j] ⟨E.base b,0,none⟩=(Value.base (E.g b).head).add (j*u'.sz):=by
  simp only[addrOf]
 obtain ⟨hpm1,hpm2,hpm3,cur,e0,fr,hpm4,hpm6,hpm5⟩:=Zcp hS.mem (b:=b) (s:=[.idx j]) (y:=⟨u',if j=j then .dead else q',xs.getD j u'.dflt⟩) hkb (by simp only[sub]) ⟨g3.1,ZaD _ _⟩ g4;simp only at hpm1 hpm2 hpm3 hpm4 hpm6 hpm5 g5;rw[hadr] at hpm2 hpm4 hpm5 g5;obtain ⟨w',hrun,hst⟩:=ZfB hT hty (w:=w) hcells (Za _ _ _) hpm2 (Zad _ _ _ _ hh) ⟨cur,e0,fr,hpm4,hpm6,hpm5⟩;obtain ⟨m2,k2,hhead⟩:=hS.mem.storeHole hkb hkd hdb g3.1 hst;have hfin:setB (setB st.blk d none) b (some ⟨vr,pn, .own q', .slice e u',xs.set j x'⟩)=updF st.blk [(d,none),(b,some ⟨vr,pn, .own q', .slice e u',xs.set j x'⟩)]:=by
  rw[show [(d,none),(b,some ⟨vr,pn, .own q', .slice e u',xs.set j x'⟩)]=([(d,none)]:List (Nat×Option Blk))++[(b,some ⟨vr,pn, .own q', .slice e u',xs.set j x'⟩)] from rfl,ZN,Zq,Zq]
 have hcc:Carries ([.all d]++[.inner b (.slice e u') []]) E w (Tch T0 E st.blk w) st.blk ⟨setG E.g b (ghSet (.slice e u') (E.g b) [.idx j] (E.g d)),E.base⟩ w' (Tch T0 ⟨setG E.g b (ghSet (.slice e u') (E.g b) [.idx j] (E.g d)),E.base⟩ (setB (setB st.blk d none) b (some ⟨vr,pn, .own q', .slice e u',xs.set j x'⟩)) w') (setB (setB st.blk d none) b (some ⟨vr,pn, .own q', .slice e u',xs.set j x'⟩)):=
  (Zm (E:=E) (E':=E) (w:=w) (w':=w) d none (Kept.refl _ _) (fun _ _=>rfl) (fun _ _=>rfl)).trans
   (Zjn (E:=E) (E':=⟨setG E.g b (ghSet (.slice e u') (E.g b) [.idx j] (E.g d)),E.base⟩) (p:= .hole j q') (xs:=xs) k2 (by rw[Ze _ _ (Ne.symm hdb)];exact hkb) (fun i hi=>Zl _ _ hi) (by simp only[setG_same];exact hhead) rfl)
 rw[hfin] at m2 hcc;refine .inr (.inl ⟨w',⟨setG E.g b (ghSet (.slice e u') (E.g b) [.idx j] (E.g d)),E.base⟩, ?_,hS.step (blk':=updF st.blk [(d,none),(b,some ⟨vr,pn, .own q', .slice e u',xs.set j x'⟩)]) (fun c' o' h'=> ?_) rfl m2 hcc trivial⟩)
 ·simp only[execOp,ho,g5,Instr.storeAt,Instr.sureAddr,Sem.run_bind,Sem.run_pure,Result.andThen_ok,hrun]
 ·simp at h'
  rcases h' with ⟨rfl,_⟩ | ⟨rfl,_⟩
  ·exact ZaK hkd
  ·exact ZaK hkb
end
end Go.Rx
namespace Go.Rx
noncomputable section
open Go.RowKit
variable {P:Program} {C:Ctx} {w0:World} {F0:List Nat} {T0:TypeId→Nat→Prop}
theorem ZdS {E:Env} {blk:Nat→Option Blk} {w w':World} (hm:Mem w0 F0 T0 E blk w) {b H:Nat} (hne:H≠b) {q:Perm} {e:TypeId} {u:Ty}
  {v0 v':Value} {xs:List u.den} {gx:Nat→Gh}
  (hx:∀i,i<xs.length→Holds w (Tch T0 E blk w) u q (xs.getD i u.dflt) (gx i)) (hv0:∀k,k∈v0.ownBlock.toList++catF (fun i=>foot u q (xs.getD i u.dflt) (gx i)) xs.length→k∈feet E blk b)
  (hnd:(v0.ownBlock.toList++catF (fun i=>foot u q (xs.getD i u.dflt) (gx i)) xs.length).Nodup)
  {ys:List u.den} {gs:Nat→Gh}
  (hy:∀i,i<ys.length→Holds w (Tch T0 E blk w) u q (ys.getD i u.dflt) (gs i)) (hfy:∀i,i<ys.length→∀k,k∈foot u q (ys.getD i u.dflt) (gs i)→k∈feet E blk H)
  (hndy:(catF (fun i=>foot u q (ys.getD i u.dflt) (gs i)) ys.length).Nodup)
  (h1:OwnR w' u e u.sz v' (xs.length+ys.length) (catN (fun i=>cells u (xs.getD i u.dflt) (gx i)) xs.length++catN (fun i=>cells u (ys.getD i u.dflt) (gs i)) ys.length))
  (h2:w.grownBy w' v0.ownBlock) (h3:v'.ownBlock=v0.ownBlock∨(v'.ownBlock=some w.heap.size∧w.heap.size<w'.heap.size)):
  ∃gz,Mem w0 F0 T0 ⟨setG E.g b (.row v' gz),E.base⟩ (setB (setB blk H none) b (some ⟨false,false, .own q, .slice e u,xs++ys⟩)) w'∧
   Kept w (Tch T0 E blk w) w' (Tch T0 ⟨setG E.g b (.row v' gz),E.base⟩ (setB (setB blk H none) b (some ⟨false,false, .own q, .slice e u,xs++ys⟩)) w')∧∀i,i<xs.length→gz i=gx i:=by
 let gz:Nat→Gh:=fun j=>if j<xs.length then gx j else gs (j - xs.length)
 have hgl:∀j,j<xs.length→(xs++ys).getD j u.dflt=xs.getD j u.dflt:=fun j hj=>by
  simp only[List.getD_eq_getElem?_getD];rw[List.getElem?_append_left hj]
 have hgr:∀j,(xs++ys).getD (xs.length+j) u.dflt=ys.getD j u.dflt:=fun j=>by
  simp only[List.getD_eq_getElem?_getD];rw[List.getElem?_append_right (by omega)];simp
 have hgzl:∀j,j<xs.length→gz j=gx j:=fun j hj=>by simp [gz,hj]
 have hgzr:∀j,gz (xs.length+j)=gs j:=fun j=>by
  have:¬xs.length+j<xs.length:=by omega
  simp only[gz,if_neg this];congr 1;omega
 have hcat:catN (fun j=>cells u ((xs++ys).getD j u.dflt) (gz j)) (xs++ys).length=catN (fun i=>cells u (xs.getD i u.dflt) (gx i)) xs.length++catN (fun i=>cells u (ys.getD i u.dflt) (gs i)) ys.length:=by
  rw[Xm,ZkX]
  congr 1
  ·exact Za8 (fun j hj=>by rw[hgl j hj,hgzl j hj])
  ·exact Za8 (fun j _=>by rw[hgr,hgzr])
 have hfoot:catF (fun j=>foot u q ((xs++ys).getD j u.dflt) (gz j)) (xs++ys).length=catF (fun i=>foot u q (xs.getD i u.dflt) (gx i)) xs.length++catF (fun i=>foot u q (ys.getD i u.dflt) (gs i)) ys.length:=by
  rw[Xm,ZkY]
  congr 1
  ·exact Zdu (fun j hj=>by rw[hgl j hj,hgzl j hj])
  ·exact Zdu (fun j _=>by rw[hgr,hgzr])
 have hcase:∀j,j<(xs++ys).length→(j<xs.length)∨∃m,m<ys.length∧j=xs.length+m:=fun j hj=>by
  rw[Xm] at hj;by_cases c:j<xs.length
  ·exact .inl c
  ·exact .inr ⟨j - xs.length,by omega,by omega⟩
 have hin:∀j,j<(xs++ys).length→∀k,k∈foot u q ((xs++ys).getD j u.dflt) (gz j)→k∈feet E blk b∨k∈feet E blk H:=fun j hj k hk=>by
  rcases hcase j hj with c | ⟨m,hm',rfl⟩
  ·rw[hgl j c,hgzl j c] at hk
   exact .inl (hv0 k (List.mem_append_right _ (Zw.2 ⟨j,c,hk⟩)))
  ·rw[hgr,hgzr] at hk
   exact .inr (hfy m hm' k hk)
 have hrowne:∀k,v0.ownBlock=some k→∀j,j<(xs++ys).length→k∉foot u q ((xs++ys).getD j u.dflt) (gz j):=fun k hk j hj hin'=>by
  rcases hcase j hj with c | ⟨m,hm',rfl⟩
  ·rw[hgl j c,hgzl j c] at hin'
   rw[hk] at hnd;simp only[Option.toList_some,List.cons_append,List.nil_append,List.nodup_cons] at hnd;exact hnd.1 (Zw.2 ⟨j,c,hin'⟩)
  ·rw[hgr,hgzr] at hin'
   exact hne (hm.sep.apart H b k (hfy m hm' k hin') (hv0 k (by rw[hk];simp)))
 obtain ⟨m1,k1⟩:=hm.rowed (h:=b) (h2:=H) hne (e:=e) (u:=u) (q:=q) (zs:=xs++ys) (gs:=gz) (v:=v') (row:=v0.ownBlock) (fun k hk=>hv0 k (by rw[hk];simp)) h2 (by rw[hcat,Xm];exact h1)
  (fun k hk=>by
   rcases h3 with h3 | ⟨h3,h4⟩
   ·rw[h3] at hk
    exact .inl ⟨hv0 k (by rw[hk];simp),hrowne k hk⟩
   ·rw[h3] at hk;cases hk
    exact .inr ⟨Xl _,h4⟩)
  (fun j hj=>by
   rcases hcase j hj with c | ⟨m,hm',rfl⟩
   ·rw[hgl j c,hgzl j c];exact hx j c
   ·rw[hgr,hgzr];exact hy m hm')
  hrowne hin
  (by
   rw[hfoot];rw[List.nodup_append] at hnd ⊢;refine ⟨hnd.2.1,hndy,fun a ha c hc e'=> ?_⟩;subst e';obtain ⟨m,hm',hc⟩:=Zw.1 hc;exact hne (hm.sep.apart H b a (hfy m hm' a hc) (hv0 a (List.mem_append_right _ ha))))
 exact ⟨gz,m1,k1,hgzl⟩
theorem Zis {E:Env} {blk:Nat→Option Blk} {w w':World} (hm:Mem w0 F0 T0 E blk w) {b H:Nat} (hne:H≠b) {q:Perm} {e:TypeId} {u:Ty}
  {v0 v':Value} {xs:List u.den} {gx:Nat→Gh}
  (hx:∀i,i<xs.length→Holds w (Tch T0 E blk w) u q (xs.getD i u.dflt) (gx i)) (hv0:∀k,k∈v0.ownBlock.toList++catF (fun i=>foot u q (xs.getD i u.dflt) (gx i)) xs.length→k∈feet E blk b)
  (hnd:(v0.ownBlock.toList++catF (fun i=>foot u q (xs.getD i u.dflt) (gx i)) xs.length).Nodup)
  {ys:List u.den} {gs:Nat→Gh}
  (hy:∀i,i<ys.length→Holds w (Tch T0 E blk w) u q (ys.getD i u.dflt) (gs i)) (hfy:∀i,i<ys.length→∀k,k∈foot u q (ys.getD i u.dflt) (gs i)→k∈feet E blk H)
  (hndy:(catF (fun i=>foot u q (ys.getD i u.dflt) (gs i)) ys.length).Nodup)
  (h1:OwnR w' u e u.sz v' (xs.length+ys.length) (catN (fun i=>cells u (xs.getD i u.dflt) (gx i)) xs.length++catN (fun i=>cells u (ys.getD i u.dflt) (gs i)) ys.length))
  (h2:w.grownBy w' v0.ownBlock) (h3:v'.ownBlock=v0.ownBlock∨(v'.ownBlock=some w.heap.size∧w.heap.size<w'.heap.size)):
  ∃gz,Mem w0 F0 T0 ⟨setG E.g b (.row v' gz),E.base⟩ (setB (setB blk H none) b (some ⟨false,false, .own q, .slice e u,xs++ys⟩)) w'∧
   Kept w (Tch T0 E blk w) w' (Tch T0 ⟨setG E.g b (.row v' gz),E.base⟩ (setB (setB blk H none) b (some ⟨false,false, .own q, .slice e u,xs++ys⟩)) w'):=
 let ⟨gz,m1,k1,_⟩:=ZdS hm hne hx hv0 hnd hy hfy hndy h1 h2 h3
 ⟨gz,m1,k1⟩
theorem Zkm (hT:TabOk P C) {t e:TypeId} {u:Ty} (hty:C.ty t=some (.slice e u)) (ty:TypeId) {E:Env} {blk:Nat→Option Blk} {w:World} (hm:Mem w0 F0 T0 E blk w) {b H:Nat} (hne:H≠b) {q:Perm}
  {v0:Value} {xs:List u.den} {gx:Nat→Gh} (hown:OwnR w u e u.sz v0 xs.length (catN (fun i=>cells u (xs.getD i u.dflt) (gx i)) xs.length))
  (hx:∀i,i<xs.length→Holds w (Tch T0 E blk w) u q (xs.getD i u.dflt) (gx i)) (hv0:∀k,k∈v0.ownBlock.toList++catF (fun i=>foot u q (xs.getD i u.dflt) (gx i)) xs.length→k∈feet E blk b)
  (hnd:(v0.ownBlock.toList++catF (fun i=>foot u q (xs.getD i u.dflt) (gx i)) xs.length).Nodup)
  {ys:List u.den} {gs:Nat→Gh} {A:Option Addr} {cap:Nat} (hA:A=none→ys.length=0∧cap=0) (hmem:∀ad,A=some ad→MemAt w ad (catN (fun i=>cells u (ys.getD i u.dflt) (gs i)) ys.length))
  (hy:∀i,i<ys.length→Holds w (Tch T0 E blk w) u q (ys.getD i u.dflt) (gs i)) (hfy:∀i,i<ys.length→∀k,k∈foot u q (ys.getD i u.dflt) (gs i)→k∈feet E blk H)
  (hndy:(catF (fun i=>foot u q (ys.getD i u.dflt) (gs i)) ys.length).Nodup) (hfitB:fitB (xs.length+ys.length) (C.bytes e)=true):
  ∃v' w' gz,(Builtin.append_ #[t,t] ty #[v0, .slice A ys.length cap]).run P w= .ok v' w'∧
   Mem w0 F0 T0 ⟨setG E.g b (.row v' gz),E.base⟩ (setB (setB blk H none) b (some ⟨false,false, .own q, .slice e u,xs++ys⟩)) w'∧
   Kept w (Tch T0 E blk w) w' (Tch T0 ⟨setG E.g b (.row v' gz),E.base⟩ (setB (setB blk H none) b (some ⟨false,false, .own q, .slice e u,xs++ys⟩)) w')∧∀i,i<xs.length→gz i=gx i:=by
 obtain ⟨hd1,hd2⟩:=Z2 hT hty;obtain ⟨i,i1,i2,i3,i4⟩:=Ziq hT hd2;have hpos:=ZdQ hT hd2;simp only[fitB,Xh,Xi] at hfitB;have hlenY:(catN (fun i=>cells u (ys.getD i u.dflt) (gs i)) ys.length).length=ys.length*u.sz:=ZR (fun _ _=>Za _ _ _)
 obtain ⟨v',w',hr,h1,h2,h3⟩:=Zgt (P:=P) w t ty e i _ u.sz (C.bytes e) hd1 i1 i4 i2 i3 (by rw[Zbb];simp [Za]) hpos v0 xs.length _ hown A ys.length cap hA
  (catN (fun i=>cells u (ys.getD i u.dflt) (gs i)) ys.length) hlenY (fun ad had j v hj=>hmem ad had j v hj) (fun v hv=>by
   obtain ⟨j,hj,hv⟩:=mem_catN hv;exact Zad u q _ _ (hy j hj) v hv) hfitB.2 (by simp only[maxLen];omega)
 obtain ⟨gz,m1,k1,k3⟩:=ZdS hm hne hx hv0 hnd hy hfy hndy h1 h2 h3;exact ⟨v',w',gz,hr,m1,k1,k3⟩
theorem Zfe (hT:TabOk P C) {t e:TypeId} {u:Ty} (hty:C.ty t=some (.slice e u)) (ty:TypeId) {E:Env} {blk:Nat→Option Blk} {w:World} (hm:Mem w0 F0 T0 E blk w) {b H:Nat} (hne:H≠b) {q:Perm}
  {v0:Value} {xs:List u.den} {gx:Nat→Gh} (hown:OwnR w u e u.sz v0 xs.length (catN (fun i=>cells u (xs.getD i u.dflt) (gx i)) xs.length))
  (hx:∀i,i<xs.length→Holds w (Tch T0 E blk w) u q (xs.getD i u.dflt) (gx i)) (hv0:∀k,k∈v0.ownBlock.toList++catF (fun i=>foot u q (xs.getD i u.dflt) (gx i)) xs.length→k∈feet E blk b)
  (hnd:(v0.ownBlock.toList++catF (fun i=>foot u q (xs.getD i u.dflt) (gx i)) xs.length).Nodup)
  {ys:List u.den} {gs:Nat→Gh} {A:Option Addr} {cap:Nat} (hA:A=none→ys.length=0∧cap=0) (hmem:∀ad,A=some ad→MemAt w ad (catN (fun i=>cells u (ys.getD i u.dflt) (gs i)) ys.length))
  (hy:∀i,i<ys.length→Holds w (Tch T0 E blk w) u q (ys.getD i u.dflt) (gs i)) (hfy:∀i,i<ys.length→∀k,k∈foot u q (ys.getD i u.dflt) (gs i)→k∈feet E blk H)
  (hndy:(catF (fun i=>foot u q (ys.getD i u.dflt) (gs i)) ys.length).Nodup) (hfitB:fitB (xs.length+ys.length) (C.bytes e)=true):
  ∃v' w' gz,(Builtin.append_ #[t,t] ty #[v0, .slice A ys.length cap]).run P w= .ok v' w'∧
   Mem w0 F0 T0 ⟨setG E.g b (.row v' gz),E.base⟩ (setB (setB blk H none) b (some ⟨false,false, .own q, .slice e u,xs++ys⟩)) w'∧
   Kept w (Tch T0 E blk w) w' (Tch T0 ⟨setG E.g b (.row v' gz),E.base⟩ (setB (setB blk H none) b (some ⟨false,false, .own q, .slice e u,xs++ys⟩)) w'):=
 let ⟨v',w',gz,hr,m1,k1,_⟩:=Zkm hT hty ty hm hne hown hx hv0 hnd hA hmem hy hfy hndy hfitB
 ⟨v',w',gz,hr,m1,k1⟩
theorem ZbK {w:World} {T:TypeId→Nat→Prop} {e:TypeId} {u:Ty} {q:Perm} {xs:List u.den} {g:Gh} (h:Holds w T (.slice e u) (.own q) xs g):
  OwnR w u e u.sz g.head xs.length (catN (fun i=>cells u (xs.getD i u.dflt) (g.at i)) xs.length)∧(∀i,i<xs.length→Holds w T u q (xs.getD i u.dflt) (g.at i)):=by
 simpa only[Holds] using h
theorem ZaP (c:Call) (b:Builtin) (a:Act) (o:Oper) (w:World) (hc:c.callee= .builtin b) (ho:o.op= .call c):(execOp a.eval o).run P w=(builtin b c.argTypes o.type (c.args.map fun | .const _=>true | _=>false) (c.args.map a.eval)).run P w:=by
 simp only[execOp,ho,resolve,hc,Sem.run_bind,Sem.run_pure,Result.andThen_ok,invoke];rfl
theorem ZmO {E:Env} {st:St} {a:Act} {w:World} {o:Oper} {c:Call} {d:Nat} {t:TypeId} {os ox:Operand} {pl:Plan} (hT:TabOk P C) (hS:Sim w0 F0 T0 E st a w) (hfit:Fits st) (hd:d<st.regs.length) (hdst:o.dst=some d)
  (ho:o.op= .call c) (hc:c.callee= .builtin .append) (hts:c.argTypes= #[t,t]) (has:c.args= #[os,ox]) (hp:appendPlan C st d t (st.opd os) (st.opd ox)=some pl):PlanDoes P w0 F0 T0 o st a w pl:=by
 unfold appendPlan at hp;split at hp
 case h_2=>cases hp
 rename_i e u hty;split at hp
 case h_2=>cases hp
 rename_i cc hcc;split at hp
 case h_2=>cases hp
 rename_i q tk hq htk;obtain ⟨E1,gs,A,cap,X,m1,c1,hv,hA,hmem,hy,hfy,hndy,hU⟩:=Zqz (h:=st.blks.length+1) hS (Zj st 1) hcc hq htk;have hs:=Zr hS os;have hex:∀v' w',(Builtin.append_ #[t,t] o.type #[a.eval os, .slice A (List.length cc.2) cap]).run P w= .ok v' w'→(execOp a.eval o).run P w= .ok (.value v') w':=fun v' w' h=>by
  rw[ZaP c _ a o w hc ho,hts,has];simp only[builtin,List.map_toArray,List.map_cons,List.map_nil,hv,Sem.run_bind,h,Result.andThen_ok,Sem.run_pure]
 have hfreeN:updF st.blk tk.1 st.blks.length=none:=Z4 hU 0;have hfreeN1:updF st.blk tk.1 (st.blks.length+1)=none:=Z4 hU 1;have cdrop:=Zm (E:=E1) (E':=E1) (w:=w) (w':=w) (T:=Tch T0 E1 (setB (updF st.blk tk.1) (st.blks.length+1) X) w) (T':=Tch T0 E1 (setB (updF st.blk tk.1) (st.blks.length+1) X) w) (blk:=setB (updF st.blk tk.1) (st.blks.length+1) X) (st.blks.length+1) none (Kept.refl _ _) (fun _ _=>rfl) (fun _ _=>rfl);have hX0:setB (setB (updF st.blk tk.1) (st.blks.length+1) X) (st.blks.length+1) none=updF st.blk tk.1:=by
  rw[ZO,ZaO (f:=updF st.blk tk.1) (a:=st.blks.length+1) (x:=none) hfreeN1]
 split at hp
 · -- onto a nil slice
  rename_i hreg;rw[hreg] at hs;cases hp;intro hb;have hs':a.eval os= .slice none 0 0:=hs
  obtain ⟨v',w',gz,hr,m2,k2⟩:=Zfe hT hty o.type m1 (b:=st.blks.length) (H:=st.blks.length+1) (by omega) (q:=q) (v0:= .slice none 0 0) (xs:=([]:List u.den)) (gx:=fun _=> .leaf)
   (OwnR.of (World.ownsRow_nil w 0 e u.sz)) (fun i hi=>absurd hi (by simp)) (fun k hk=>by simp [Value.ownBlock,catF] at hk) (by simp [Value.ownBlock,catF]) hA hmem hy hfy hndy hb
  rw[←hs'] at hr;rw[hX0] at m2 k2;have cnew:=Zm (E:=E1) (E':=⟨setG E1.g st.blks.length (.row v' gz),E1.base⟩) (w:=w) (w':=w') (blk:=updF st.blk tk.1) st.blks.length (some ⟨false,false, .own q, .slice e u,([]++cc.2:List u.den)⟩) k2 (fun i hi=>Zl _ _ hi) (fun _ _=>rfl);rw[hX0] at cdrop;have e9:tk.2++[Kill.all (st.blks.length+1)]++[Kill.all st.blks.length]=tk.2++(Kill.all (st.blks.length+1)::[Kill.all st.blks.length]):=by simp
  have hct:=(c1.trans cdrop).trans cnew;rw[e9] at hct;have hcd:=Carries.dropHand (K:=tk.2) (K2:=[]) (Zj st 0) (Carries.dropHand (K:=tk.2) (K2:=[.all st.blks.length]) (Zj st 1) hct);rw[List.append_nil] at hcd;obtain ⟨E',hE⟩:=Zjf (d:=d) hS hfit hd hU m2 hcd;rw[←hdst] at hE;refine Does.value (v:=v') (E':=E') (hex v' w' hr) ?_
  simpa [hold,Perm.plain,toV,Ty.agg,cells,Gh.head] using hE
 · -- onto a row of its own
  rename_i b hreg;rw[hreg] at hs;split at hp
  case h_2=>cases hp
  rename_i b0 s0 k hkill hk;have hsp:killL tk.2 (.vw b [])= .vw b []:=by
   rcases ZcF tk.2 (.vw b []) with h | h
   ·exact h
   ·rw[hkill] at h;cases h
  split at hp
  case isFalse=>cases hp
  rename_i hcond;obtain ⟨hpin,hvar,hperm⟩:=hcond;split at hp
  case isFalse=>cases hp
  rename_i hkt;cases hp;intro hb;obtain ⟨kv,kpin,kp,kt,kx⟩:=k;simp only at hpin hvar hperm hkt;subst hpin;subst hvar;subst hperm;subst hkt;have hbN1:b≠st.blks.length+1:=fun h=>by rw[h] at hk;have:st.blkU tk.1 (st.blks.length+1)=none:=hfreeN1;rw[this] at hk;cases hk
  have hkb:setB (updF st.blk tk.1) (st.blks.length+1) X b=some ⟨false,false, .own q, .slice e u,kx⟩:=by rw[Ze _ _ hbN1];exact hk
  obtain ⟨k0,y0,s1,s2,_,s4⟩:=hs;have hs2:=c1 (.vw b []) (a.eval os) ⟨k0,y0,s1,s2,by assumption,s4⟩;rw[hsp] at hs2;obtain ⟨k2,y2,t1,t2,_,t4⟩:=hs2;rw[hkb] at t1;cases t1;rw[Zp] at t2;cases t2;have t4':a.eval os=(E1.g b).head:=by simpa [ghAt,toV,Ty.agg,cells] using t4
  have hho:=(m1.blks b _ hkb).holds;obtain ⟨r1,r2⟩:=ZbK hho;have hfeet:feet E1 (setB (updF st.blk tk.1) (st.blks.length+1) X) b=(E1.g b).head.ownBlock.toList++catF (fun i=>foot u q (List.getD kx i u.dflt) ((E1.g b).at i)) (List.length kx):=by
   rw[ZE hkb];simp [foot]
  obtain ⟨v',w',gz,hr,m2,k2⟩:=Zfe hT hty o.type m1 (b:=b) (H:=st.blks.length+1) (Ne.symm hbN1) (q:=q) (v0:=(E1.g b).head) (xs:=kx) (gx:=(E1.g b).at)
   r1 r2 (fun k hk=>by rw[hfeet];exact hk) (by rw[←hfeet];exact m1.sep.nodup b) hA hmem hy hfy hndy hb
  rw[←t4'] at hr;rw[hX0] at m2 k2 cdrop;have cnew:=Zm (E:=E1) (E':=⟨setG E1.g b (.row v' gz),E1.base⟩) (w:=w) (w':=w') (blk:=updF st.blk tk.1) b (some ⟨false,false, .own q, .slice e u,(kx++cc.2:List u.den)⟩) k2 (fun i hi=>Zl _ _ hi) (fun _ _=>rfl);have hct:=(c1.trans cdrop).trans cnew;have e9:tk.2++[Kill.all (st.blks.length+1)]++[Kill.all b]=tk.2++(Kill.all (st.blks.length+1)::[Kill.all b]):=by simp
  rw[e9] at hct;have hcd:=Carries.dropHand (K:=tk.2) (K2:=[.all b]) (Zj st 1) hct;have hfin:setB (updF st.blk tk.1) b (some ⟨false,false, .own q, .slice e u,(kx++cc.2:List u.den)⟩)=updF st.blk (tk.1++[(b,some ⟨false,false, .own q, .slice e u,(kx++cc.2:List u.den)⟩)]):=by rw[ZN,Zq]
  rw[hfin] at m2 hcd;refine Does.value (v:=v') (E':=⟨setG E1.g b (.row v' gz),E1.base⟩) (hex v' w' hr) (hS.step (blk':=updF st.blk (tk.1++[(b,some ⟨false,false, .own q, .slice e u,(kx++cc.2:List u.den)⟩)])) (fun c' o' h'=> ?_) rfl m2 hcd ?_)
  ·rcases List.mem_append.1 h' with h' | h'
   ·obtain ⟨k',hk'⟩:=hU c' o' h';exact ZaK hk'
   ·simp at h';rw[h'.1];exact ZaK s1
  ·refine ⟨⟨false,false, .own q, .slice e u,(kx++cc.2:List u.den)⟩,⟨.slice e u, .own q,(kx++cc.2:List u.den)⟩, ?_,Zp _ _ _,trivial, ?_⟩
   ·rw[←hfin,setB_same]
   ·simp [ghAt,toV,Ty.agg,cells,Gh.head]
 · -- onto a row that lies inside another value
  rename_i b f0 s' hreg;rw[hreg] at hs;split at hp
  case h_2=>cases hp
  rename_i b0 s0 k hkill hk;have hsp:killL tk.2 (.vw b (f0::s'))= .vw b (f0::s'):=by
   rcases ZcF tk.2 (.vw b (f0::s')) with h | h
   ·exact h
   ·rw[hkill] at h;cases h
  generalize hS0:f0::s'=s at*;split at hp
  ·cases hp
  rename_i hpin;split at hp
  case h_2=>cases hp
  rename_i y hy0;split at hp
  case isFalse=>cases hp
  rename_i hyp;split at hp
  case isFalse=>cases hp
  rename_i hyt;split at hp
  case h_2=>cases hp
  rename_i z hz;cases hp;intro hb;obtain ⟨yt,yp,yx⟩:=y;simp only at hyp hyt;subst hyp;subst hyt;have hs2:=c1 _ _ hs;rw[hsp] at hs2;obtain ⟨k1,y1,t1,t2,t3,t4⟩:=hs2;have hbN1:b≠st.blks.length+1:=fun h=>by rw[h] at hk;have:st.blkU tk.1 (st.blks.length+1)=none:=hfreeN1;rw[this] at hk;cases hk
  have hbN:b≠st.blks.length:=fun h=>by rw[h] at hk;have:st.blkU tk.1 st.blks.length=none:=hfreeN;rw[this] at hk;cases hk
  have hkb:setB (updF st.blk tk.1) (st.blks.length+1) X b=some k:=by rw[Ze _ _ hbN1];exact hk
  rw[hkb] at t1;cases t1;rw[hy0] at t2;cases t2;have hNf:setB (updF st.blk tk.1) (st.blks.length+1) X st.blks.length=none:=by rw[Ze _ _ (by omega)];exact hfreeN
  obtain ⟨E2,m2,c2,hg2,hbase2,hoth,k2⟩:=m1.takeOut hkb hNf hy0 t3 hz;have hN2:setB (setB (setB (updF st.blk tk.1) (st.blks.length+1) X) b (some ⟨k.var,k.pin,z.1.1,k.ty,z.1.2⟩)) st.blks.length (some ⟨false,false, .own q, .slice e u,yx⟩) (st.blks.length+1)=X:=by
   rw[Ze _ _ (by omega),Ze _ _ (Ne.symm hbN1),setB_same]
  have hfeH:feet E2 (setB (setB (setB (updF st.blk tk.1) (st.blks.length+1) X) b (some ⟨k.var,k.pin,z.1.1,k.ty,z.1.2⟩)) st.blks.length (some ⟨false,false, .own q, .slice e u,yx⟩)) (st.blks.length+1)=feet E1 (setB (updF st.blk tk.1) (st.blks.length+1) X) (st.blks.length+1):=by
   unfold feet;rw[hN2,setB_same,hoth _ (Ne.symm hbN1) (by omega),hbase2]
  have hho:=(m2.blks st.blks.length _ (setB_same _ _ _)).holds;obtain ⟨r1,r2⟩:=ZbK hho;have hfeet:=ZE (E:=E2) (setB_same (setB (setB (updF st.blk tk.1) (st.blks.length+1) X) b (some ⟨k.var,k.pin,z.1.1,k.ty,z.1.2⟩)) st.blks.length (some ⟨false,false, .own q, .slice e u,yx⟩));have hfeet':feet E2 (setB (setB (setB (updF st.blk tk.1) (st.blks.length+1) X) b (some ⟨k.var,k.pin,z.1.1,k.ty,z.1.2⟩)) st.blks.length (some ⟨false,false, .own q, .slice e u,yx⟩)) st.blks.length=(E2.g st.blks.length).head.ownBlock.toList++catF (fun i=>foot u q (List.getD yx i u.dflt) ((E2.g st.blks.length).at i)) (List.length yx):=by
   rw[hfeet];simp [foot]
  have t4':a.eval os=(E2.g st.blks.length).head:=by rw[hg2];simpa [toV,Ty.agg,cells] using t4
  have hy2:∀i,i<List.length cc.2→Holds w (Tch T0 E2 (setB (setB (setB (updF st.blk tk.1) (st.blks.length+1) X) b (some ⟨k.var,k.pin,z.1.1,k.ty,z.1.2⟩)) st.blks.length (some ⟨false,false, .own q, .slice e u,yx⟩)) w) u q (List.getD cc.2 i u.dflt) (gs i):=fun i hi=>
   Holds.agree _ _ _ _ (hy i hi) (fun _ _=>rfl) k2
  obtain ⟨v',w',gz,hr,m3,k3⟩:=Zfe hT hty o.type m2 (b:=st.blks.length) (H:=st.blks.length+1) (by omega) (q:=q) (v0:=(E2.g st.blks.length).head) (xs:=yx) (gx:=(E2.g st.blks.length).at)
   r1 r2 (fun k hk=>by rw[hfeet'];exact hk) (by rw[←hfeet'];exact m2.sep.nodup _) hA hmem hy2 (fun i hi k hk=>by rw[hfeH];exact hfy i hi k hk) hndy hb
  rw[←t4'] at hr;have hfin:setB (setB (setB (setB (setB (updF st.blk tk.1) (st.blks.length+1) X) b (some ⟨k.var,k.pin,z.1.1,k.ty,z.1.2⟩)) st.blks.length (some ⟨false,false, .own q, .slice e u,yx⟩)) (st.blks.length+1) none) st.blks.length (some ⟨false,false, .own q, .slice e u,(yx++cc.2:List u.den)⟩)=setB (updF st.blk (tk.1++[(b,some ⟨k.var,k.pin,z.1.1,k.ty,z.1.2⟩)])) st.blks.length (some ⟨false,false, .own q, .slice e u,(yx++cc.2:List u.den)⟩):=by
   rw[ZN,Zq]
   funext i
   simp only[setB];by_cases e1:i=st.blks.length
   ·simp [e1]
   ·by_cases e2:i=st.blks.length+1
    ·subst e2
     have:¬st.blks.length+1=b:=Ne.symm hbN1;simp [this,hfreeN1]
    ·simp [e1,e2]
  have cd2:=Zm (E:=E2) (E':=E2) (w:=w) (w':=w) (T:=Tch T0 E2 (setB (setB (setB (updF st.blk tk.1) (st.blks.length+1) X) b (some ⟨k.var,k.pin,z.1.1,k.ty,z.1.2⟩)) st.blks.length (some ⟨false,false, .own q, .slice e u,yx⟩)) w) (T':=Tch T0 E2 (setB (setB (setB (updF st.blk tk.1) (st.blks.length+1) X) b (some ⟨k.var,k.pin,z.1.1,k.ty,z.1.2⟩)) st.blks.length (some ⟨false,false, .own q, .slice e u,yx⟩)) w) (blk:=setB (setB (setB (updF st.blk tk.1) (st.blks.length+1) X) b (some ⟨k.var,k.pin,z.1.1,k.ty,z.1.2⟩)) st.blks.length (some ⟨false,false, .own q, .slice e u,yx⟩)) (st.blks.length+1) none (Kept.refl _ _) (fun _ _=>rfl) (fun _ _=>rfl);have cnew:=Zm (E:=E2) (E':=⟨setG E2.g st.blks.length (.row v' gz),E2.base⟩) (w:=w) (w':=w') (blk:=setB (setB (setB (setB (updF st.blk tk.1) (st.blks.length+1) X) b (some ⟨k.var,k.pin,z.1.1,k.ty,z.1.2⟩)) st.blks.length (some ⟨false,false, .own q, .slice e u,yx⟩)) (st.blks.length+1) none) st.blks.length (some ⟨false,false, .own q, .slice e u,(yx++cc.2:List u.den)⟩) k3 (fun i hi=>Zl _ _ hi) (fun _ _=>rfl);rw[hfin] at m3 cnew;have hct:=((c1.trans c2).trans cd2).trans cnew;have e9:tk.2++[z.2]++[Kill.all (st.blks.length+1)]++[Kill.all st.blks.length]=(tk.2++[z.2])++(Kill.all (st.blks.length+1)::[Kill.all st.blks.length]):=by simp
  rw[e9] at hct;have hcd:=Carries.dropHand (K:=tk.2++[z.2]) (K2:=[]) (Zj st 0) (Carries.dropHand (K:=tk.2++[z.2]) (K2:=[.all st.blks.length]) (Zj st 1) hct);rw[List.append_nil] at hcd;have hbl:∃kb,st.blk b=some kb:=let ⟨k',_,h',_⟩:=hs;⟨k',h'⟩
  obtain ⟨E',hE⟩:=Zjf (d:=d) hS hfit hd (fun b' o' hb'=>by
   rcases List.mem_append.1 hb' with hb' | hb'
   ·exact hU b' o' hb'
   ·simp at hb';rw[hb'.1];exact hbl) m3 hcd
  rw[←hdst] at hE;refine Does.value (v:=v') (E':=E') (hex v' w' hr) ?_
  simpa [hold,Perm.plain,toV,Ty.agg,cells,Gh.head,List.append_assoc,castTo] using hE
 ·cases hp
end
end Go.Rx
namespace Go.Rx
noncomputable section
open Go.RowKit
variable {P:Program} {C:Ctx} {w0:World} {F0:List Nat} {T0:TypeId→Nat→Prop}
theorem ZhE {st:St} {l:List Operand} {r:Reg} (h:regsOf st l=[r]):∃x,l=[x]∧st.opd x=r:=by
 cases l with
 | nil=>simp [regsOf] at h
 | cons x l=>cases l with
  | nil=>exact ⟨x,rfl,by simpa [regsOf] using h⟩
  | cons y l=>simp [regsOf] at h
theorem Zff {st:St} {l:List Operand} {r s:Reg} (h:regsOf st l=[r,s]):∃x y,l=[x,y]∧st.opd x=r∧st.opd y=s:=by
 cases l with
 | nil=>simp [regsOf] at h
 | cons x l=>cases l with
  | nil=>simp [regsOf] at h
  | cons y l=>cases l with
   | nil=>exact ⟨x,y,rfl,by simpa [regsOf] using h⟩
   | cons z l=>simp [regsOf] at h
theorem ZbS {st:St} {l:List Operand} {r:Reg} {rs:List Reg} (h:regsOf st l=r::rs):∃x l',l=x::l'∧st.opd x=r∧regsOf st l'=rs:=by
 cases l with
 | nil=>simp [regsOf] at h
 | cons x l=>simp only[regsOf,List.cons.injEq] at h;exact ⟨x,l,rfl,h.1,h.2⟩
theorem ZhF {E:Env} {st:St} {a:Act} {w:World} {o:Oper} {c:Call} {b:Builtin} {d:Nat} {pl:Plan} (hT:TabOk P C) (hS:Sim w0 F0 T0 E st a w) (hfit:Fits st) (hd:d<st.regs.length) (hdst:o.dst=some d)
  (ho:o.op= .call c) (hc:c.callee= .builtin b) (hp:builtinPlan C st d b c.argTypes.toList (regsOf st c.args.toList)=some pl):PlanDoes P w0 F0 T0 o st a w pl:=by
 unfold builtinPlan at hp;split at hp
 ·rename_i t ts r hts hrs
  obtain ⟨x,hx,hr⟩:=ZhE hrs;split at hp
  case h_2=>cases hp
  rename_i r' hlen;cases hp;have hargs:c.args= #[x]:=by rw[←Array.toList_inj,hx]
  have htys:c.argTypes=(t::ts).toArray:=by rw[←Array.toList_inj,hts]
  rw[←hr] at hlen;obtain ⟨v,h1,h2⟩:=Zqy hT hS hlen o.type ts;refine Does.pure hS (v:=v) ?_ h2;rw[ZaP c _ a o w hc ho,hargs,htys];simp only[builtin,List.map_toArray,List.map_cons,List.map_nil,Sem.run_bind,h1,Result.andThen_ok,Sem.run_pure]
 ·rename_i t t' r s hts hrs
  obtain ⟨x,y,hx,hr,hs⟩:=Zff hrs;split at hp
  case isFalse=>cases hp
  rename_i htt;subst htt;have hargs:c.args= #[x,y]:=by rw[←Array.toList_inj,hx]
  have htys:c.argTypes= #[t,t]:=by rw[←Array.toList_inj,hts]
  rw[←hr,←hs] at hp;exact ZmO hT hS hfit hd hdst ho hc htys hargs hp
 ·rename_i k x rs hrs
  obtain ⟨o1,l',hl,hr,hrs'⟩:=ZbS hrs;split at hp
  case h_2=>cases hp
  rename_i r' hmin;cases hp;rw[←hrs'] at hmin;obtain ⟨v,h1,h2⟩:=Zpn (P:=P) hS l' x r' hmin;have hargs:c.args=(o1::l').toArray:=by rw[←Array.toList_inj,hl]
  have hx:=Zr hS o1;rw[hr] at hx;have ex:=ZaX hx;refine Does.pure hS (v:=v) ?_ h2;rw[ZaP c _ a o w hc ho,hargs];simp only[builtin,List.map_toArray,List.map_cons,ex,Builtin.min_,Sem.run_bind,h1,Result.andThen_ok,Sem.run_pure]
 ·rename_i k x rs hrs
  obtain ⟨o1,l',hl,hr,hrs'⟩:=ZbS hrs;split at hp
  case h_2=>cases hp
  rename_i r' hmin;cases hp;rw[←hrs'] at hmin;obtain ⟨v,h1,h2⟩:=Zpo (P:=P) hS l' x r' hmin;have hargs:c.args=(o1::l').toArray:=by rw[←Array.toList_inj,hl]
  have hx:=Zr hS o1;rw[hr] at hx;have ex:=ZaX hx;refine Does.pure hS (v:=v) ?_ h2;rw[ZaP c _ a o w hc ho,hargs];simp only[builtin,List.map_toArray,List.map_cons,ex,Builtin.max_,Sem.run_bind,h1,Result.andThen_ok,Sem.run_pure]
 ·cases hp
end
end Go.Rx
namespace Go.Rx
noncomputable section
open Go.RowKit
variable {P:Program} {C:Ctx} {w0:World} {F0:List Nat} {T0:TypeId→Nat→Prop}
def GivOk (w:World) (T:TypeId→Nat→Prop):(g:Giv)→g.den→Gh→Nat→List Value→Prop
 | .none,_,_,_,vs=>vs=[]
 | .move t p,x,gh,_,vs=>Holds w T t p x gh∧vs=[toV t (cells t x gh)]
 | .mut t p _,x,gh,_,vs=>Holds w T t p x gh∧vs=[toV t (cells t x gh)]
 | .ptr t p _,x,gh,b,vs=>Holds w T t p x gh∧(∃e,w.heap[b]? =some (.cells (cells t x gh).toArray e (0,0)))∧vs=[.pointer (some ⟨b,0,none⟩)]
def givFeet:(g:Giv)→g.den→Gh→Nat→List Nat
 | .none,_,_,_=>[]
 | .move t p,x,gh,_=>foot t p x gh
 | .mut t p _,x,gh,_=>foot t p x gh
 | .ptr t p _,x,gh,b=>b::foot t p x gh
def BackOk (w:World) (T:TypeId→Nat→Prop):(g:Giv)→g.den→Gh→g.out→Gh→Nat→Prop
 | .mut t _ q,x,gh,x',gh',_=>Holds w T t q x' gh'∧cells t x' gh'=cells t x gh
 | .ptr t _ q,_,_,x',gh',b=>Holds w T t q x' gh'∧∃e,w.heap[b]? =some (.cells (cells t x' gh').toArray e (0,0))
 | .none,_,_,_,_,_=>True
 | .move _ _,_,_,_,_,_=>True
def backFeet:(g:Giv)→g.out→Gh→Nat→List Nat
 | .mut t _ q,x',gh',_=>foot t q x' gh'
 | .ptr t _ q,x',gh',b=>b::foot t q x' gh'
 | .none,_,_,_=>[]
 | .move _ _,_,_,_=>[]
def ArgsOk (w:World) (T:TypeId→Nat→Prop):(l:List Ty)→ADen l→List Value→Prop
 | [],_,vs=>vs=[]
 | t::l,x,vs=>∃g vs',vs=toV t (cells t x.1 g)::vs'∧Holds w T t .ro x.1 g∧ArgsOk w T l x.2 vs'
def RetOk (sp:Spec) (w:World) (T:TypeId→Nat→Prop) (x:sp.giv.den) (gh:Gh) (b:Nat) (r:sp.res.den×sp.giv.out) (v:Value) (w':World):Prop:=
 ∃(g' gh':Gh) (T':TypeId→Nat→Prop),Frame w (givFeet sp.giv x gh b) w'∧v=(if sp.n=1 then toV sp.res (cells sp.res r.1 g') else .tuple (comps sp.n sp.res r.1 g').toArray)∧
  Holds w' T' sp.res sp.p r.1 g'∧BackOk w' T' sp.giv x gh r.2 gh' b∧(foot sp.res sp.p r.1 g'++backFeet sp.giv r.2 gh' b).Nodup∧
  (∀k,k∈foot sp.res sp.p r.1 g'++backFeet sp.giv r.2 gh' b→k<w'.heap.size∧(w.heap.size≤k∨k∈givFeet sp.giv x gh b))∧
  (∀e k,T' e k→(T e k∨k∈givFeet sp.giv x gh b∨w.heap.size≤k)∧k<w'.heap.size∧k∉foot sp.res sp.p r.1 g'++backFeet sp.giv r.2 gh' b)
class Laid (P:Program) where
 D:World→(TypeId→Nat→Prop)→Prop
 stable:∀ {w w':World} {T T':TypeId→Nat→Prop},D w T→(∀e k,T e k→T' e k∧w'.heap[k]? =w.heap[k]?)→D w' T'
def T0Ok (P:Program) [Laid P] (w0:World) (F0:List Nat) (T0:TypeId→Nat→Prop):Prop:=
 (∀(e:TypeId) k,w0.heap.size≤k∨k∈F0→T0 e k)∧∃T00:TypeId→Nat→Prop,Laid.D P w0 T00∧∀e k,T00 e k→T0 e k∧k<w0.heap.size∧k∉F0
theorem T0Ok.laid [Laid P] {E:Env} {blk:Nat→Option Blk} {w:World} {T1:TypeId→Nat→Prop} (h:T0Ok P w0 F0 T0) (hm:Mem w0 F0 T0 E blk w) (hT1:∀e k,Tch T0 E blk w e k→T1 e k):Laid.D P w T1:=by
 obtain ⟨_,T00,h1,h2⟩:=h;refine Laid.stable h1 fun e k hk=> ?_
 obtain ⟨a1,a2,a3⟩:=h2 e k hk;refine ⟨hT1 e k ⟨a1,Nat.lt_of_lt_of_le a2 hm.frame.size,fun ho=> ?_⟩,hm.frame.block k a2 a3⟩;rcases (hm.own k ho).2 with h3 | h3
 ·omega
 ·exact a3 h3
def addT (vs:List Value):Option Nat→List Value
 | none=>vs
 | some k=>vs++[.func (.func k) #[] #[]]
def keyF (n:Nat):Nat:=bif Nat.blt n 65536 then n else n / 65536 - 1
def keyT (n:Nat):Option Nat:=bif Nat.blt n 65536 then none else some (n % 65536)
def SatT (P:Program) [Laid P] (f:FuncId) (tl:Option Nat) (sp:Spec):Prop:=
 (∃fn c,P.funcs[f]? =some fn∧(fn.name== "runtime.NumGoroutine")=false∧fn.body=some c)∧
 ∀(w:World) (T:TypeId→Nat→Prop) (x:sp.giv.den) (gh:Gh) (b:Nat) (xs:ADen sp.args) (vs0 vs:List Value) (r:sp.res.den×sp.giv.out),
  GivOk w T sp.giv x gh b vs0→ArgsOk w T sp.args xs vs→(givFeet sp.giv x gh b).Nodup→(∀k,k∈givFeet sp.giv x gh b→k<w.heap.size)→
  (∀e k,T e k→k<w.heap.size∧k∉givFeet sp.giv x gh b)→Laid.D P w T→sp.f x xs=some r→
  Calls P f (addT (vs0++vs) tl).toArray w fun e w'=>∃v,e= .returned v∧RetOk sp w T x gh b r v w'
def Sat (P:Program) [Laid P] (f:FuncId) (sp:Spec):Prop:=SatT P f none sp
theorem ZbT {w:World} {T T':TypeId→Nat→Prop}:∀(t:Ty) (p:Perm) (x:t.den) (g:Gh),(∀e,e∈roTys t p→∀k,T e k→T' e k)→Holds w T t p x g→Holds w T' t p x g
 | .int _,_,_,_,_,_ | .bool,_,_,_,_,_ | .str,_,_,_,_,_=>by simp [Holds]
 | .err,_,_,_,_,h=>by simpa [Holds] using h
 | .prod a b,p,x,g,hf,h=>by
  simp only[roTys,List.mem_append] at hf;simp only[Holds] at h ⊢;exact ⟨ZbT a _ _ _ (fun e he=>hf e (.inl he)) h.1,ZbT b _ _ _ (fun e he=>hf e (.inr he)) h.2⟩
 | .arr n t,p,xs,g,hf,h=>by
  simp only[roTys] at hf;simp only[Holds] at h ⊢;exact ⟨h.1,fun i hi=>ZbT t _ _ _ hf (h.2 i hi)⟩
 | .slice e t, .own q,xs,g,hf,h=>by
  simp only[roTys] at hf;simp only[Holds] at h ⊢;exact ⟨h.1,fun i hi=>ZbT t _ _ _ hf (h.2 i hi)⟩
 | .slice e t, .hole z0 q,xs,g,hf,h=>by
  simp only[roTys,List.mem_append] at hf;simp only[Holds] at h ⊢;refine ⟨h.1,fun i hi=>ZbT t _ _ _ (fun e' he'=> ?_) (h.2 i hi)⟩;split at he'
  ·exact hf e' (.inr he')
  ·exact hf e' (.inl he')
 | .slice e t, .ro,xs,g,hf,h=>by
  simp only[roTys,List.mem_cons] at hf;simp only[Holds] at h ⊢;obtain ⟨⟨A,cap,h1,h2,h3,h3',h4,h5⟩,h6⟩:=h;exact ⟨⟨A,cap,h1,h2,h3,h3',fun hne=>let ⟨a,ha,hb⟩:=h4 hne;⟨a,ha,hf e (.inl rfl) _ hb⟩,h5⟩,fun i hi=>ZbT t _ _ _ (fun e' he'=>hf e' (.inr he')) (h6 i hi)⟩
 | .slice e t, .dead,xs,g,_,h=>by simpa [Holds] using h
 | .slice e t, .pr _ _,xs,g,_,h=>by simp [Holds] at h
theorem Mem.called {E E1:Env} {blk blk1:Nat→Option Blk} {w w':World} {T1 T':TypeId→Nat→Prop} {b N:Nat} {res:Ty} {p:Perm} {x:res.den} {g':Gh} (hT0:∀(e:TypeId) k,w0.heap.size≤k∨k∈F0→T0 e k) (hm:Mem w0 F0 T0 E blk w)
  (hN:blk N=none) (hN1:blk1 N=none) (hun:∀i,i≠b→blk1 i=blk i) (hE:∀i,i≠b→E1.g i=E.g i) (hbase:E1.base=E.base)
  (hfr:Frame w (feet E blk b) w') (hres:Holds w' T' res p x g') (hnd:(foot res p x g'++feet E1 blk1 b).Nodup)
  (hown:∀k,k∈foot res p x g'++feet E1 blk1 b→k<w'.heap.size∧(w.heap.size≤k∨k∈feet E blk b)) (hback:∀k',blk1 b=some k'→BlkOk E1 w' T' b k')
  (hT':∀e k,T' e k→(T1 e k∨k∈feet E blk b∨w.heap.size≤k)∧k<w'.heap.size∧k∉foot res p x g'++feet E1 blk1 b)
  (hfree:∀e,(e∈roTys res p∨∃k',blk1 b=some k'∧e∈roTys k'.ty k'.p)→∀k,T1 e k→Tch T0 E blk w e k):
  Mem w0 F0 T0 ⟨setG E1.g N g',E1.base⟩ (setB blk1 N (some ⟨false,false,p,res,x⟩)) w'∧
   Kept w (Tch T0 E blk w) w' (Tch T0 ⟨setG E1.g N g',E1.base⟩ (setB blk1 N (some ⟨false,false,p,res,x⟩)) w'):=by
 have hfN:feet ⟨setG E1.g N g',E1.base⟩ (setB blk1 N (some ⟨false,false,p,res,x⟩)) N=foot res p x g':=by
  unfold feet;rw[setB_same];simp
 have hfb:∀i,i≠N→feet ⟨setG E1.g N g',E1.base⟩ (setB blk1 N (some ⟨false,false,p,res,x⟩)) i=feet E1 blk1 i:=fun i hi=>by
  unfold feet;rw[Ze _ _ hi];simp only[Zl _ _ hi]
 have hfb0:b=N→feet E1 blk1 b=[]:=fun e=>by unfold feet;rw[e,hN1]
 rw[List.nodup_append] at hnd;have hne:∀k',blk1 b=some k'→b≠N:=fun k' hk' e=>by rw[e,hN1] at hk';cases hk'
 refine hm.redo (w':=w') (fun i=>i=N∨i=b)
  (fun i hi=>by
   have h1:i≠N:=fun e=>hi (.inl e)
   have h2:i≠b:=fun e=>hi (.inr e)
   exact ⟨by rw[Ze _ _ h1,hun _ h2],by show setG E1.g N g' i=_;rw[Zl _ _ h1,hE _ h2],by rw[hbase]⟩)
  (fun i hi j hj=>by
   have hj':j∈foot res p x g'++feet E1 blk1 b:=by
    by_cases e:i=N
    ·subst e;rw[hfN] at hj;exact List.mem_append_left _ hj
    ·rcases hi with rfl | rfl
     ·exact absurd rfl e
     ·rw[hfb _ e] at hj;exact List.mem_append_right _ hj
   obtain ⟨h1,h2⟩:=hown j hj';rcases h2 with h2 | h2
   ·exact .inr ⟨h2,h1⟩
   ·exact .inl ⟨b, .inr rfl,h2⟩)
  (fun i hi=>by
   by_cases e:i=N
   ·subst e;rw[hfN];exact hnd.1
   ·rcases hi with rfl | rfl
    ·exact absurd rfl e
    ·rw[hfb _ e];exact hnd.2.1)
  (fun i i' j hi hi' hj hj'=>by
   by_cases e:i=N<;>by_cases e':i'=N
   ·rw[e,e']
   ·subst e
    have:i'=b:=hi'.resolve_left e';subst this;rw[hfN] at hj;rw[hfb _ e'] at hj';exact absurd rfl (hnd.2.2 j hj j hj')
   ·subst e'
    have:i=b:=hi.resolve_left e;subst this;rw[hfN] at hj';rw[hfb _ e] at hj;exact absurd rfl (hnd.2.2 j hj' j hj)
   ·rw[hi.resolve_left e,hi'.resolve_left e'])
  hfr.os hfr.tape hfr.output hfr.size (fun j hj hn=>hfr.block j hj (hn b (.inr rfl)))
  (fun hK i k' hi hk'=>by
   have hTT:∀e,(∀k,T1 e k→Tch T0 E blk w e k)→∀k,T' e k→Tch T0 ⟨setG E1.g N g',E1.base⟩ (setB blk1 N (some ⟨false,false,p,res,x⟩)) w' e k:=fun ee hT1 k hk=>by
    obtain ⟨h1,h2,h3⟩:=hT' ee k hk;have hno:(k∈feet E blk b∨w.heap.size≤k)→¬Owned ⟨setG E1.g N g',E1.base⟩ (setB blk1 N (some ⟨false,false,p,res,x⟩)) k:=fun hh ⟨m,hm'⟩=>by
     by_cases e:m=N
     ·subst e;rw[hfN] at hm';exact h3 (List.mem_append_left _ hm')
     ·rw[hfb _ e] at hm'
      by_cases e2:m=b
      ·subst e2;exact h3 (List.mem_append_right _ hm')
      ·have:feet E1 blk1 m=feet E blk m:=by unfold feet;rw[hun _ e2,hE _ e2,hbase]
       rw[this] at hm';rcases hh with hh | hh
       ·exact e2 (hm.sep.apart m b k hm' hh)
       ·have:=hm.feet_lt hm';omega
    rcases h1 with h1 | h1 | h1
    ·exact (hK ee k (hT1 k h1)).2
    ·exact ⟨hT0 ee k ((hm.own k ⟨b,h1⟩).2),h2,hno (.inl h1)⟩
    ·exact ⟨hT0 ee k (.inl (Nat.le_trans hm.frame.size h1)),h2,hno (.inr h1)⟩
   have hmv:∀(t:Ty) (q:Perm) (y:t.den) (gg:Gh),(∀e,e∈roTys t q→∀k,T1 e k→Tch T0 E blk w e k)→Holds w' T' t q y gg→Holds w' (Tch T0 ⟨setG E1.g N g',E1.base⟩ (setB blk1 N (some ⟨false,false,p,res,x⟩)) w') t q y gg:=fun t q y gg hh hy=>ZbT _ _ _ _ (fun e he k hk=>hTT e (hh e he) k hk) hy
   by_cases e:i=N
   ·subst e
    rw[setB_same] at hk';cases hk';exact ⟨by simp only[setG_same];exact hmv _ _ _ _ (fun e he=>hfree e (.inl he)) hres,by simp⟩
   ·have hib:i=b:=hi.resolve_left e
    subst hib;rw[Ze _ _ e] at hk';have hb:=hback k' hk';refine ⟨?_,fun hv=> ?_⟩
    ·show Holds _ _ _ _ _ (setG E1.g N g' i)
     rw[Zl _ _ e];exact hmv _ _ _ _ (fun e he=>hfree e (.inr ⟨k',hk',he⟩)) hb.holds
    ·show ∃e,w'.heap[E1.base i]? =some (.cells (cells k'.ty k'.x (setG E1.g N g' i)).toArray e (0,0))
     rw[Zl _ _ e];exact hb.var hv)
end
end Go.Rx
namespace Go.Rx
noncomputable section
open Go.RowKit
variable {P:Program} {C:Ctx} {w0:World} {F0:List Nat} {T0:TypeId→Nat→Prop}
theorem Zbl {w:World} {T:TypeId→Nat→Prop}:∀(t:Ty) (p:Perm) (x:t.den) (g:Gh) (s:Path) (y:Sub),inR t x s→sub t p x s=some y→∀k,k∈foot y.ty y.p y.x (ghAt t g s)→k∈foot t p x g
 | t,p,x,g,[],y,_,hs,k,hk=>by
  have:y=⟨t,p,x⟩:=by cases t<;>cases p<;>simpa [sub,eq_comm] using hs
  subst this;have h2:ghAt t g []=g:=by cases t<;>rfl
  rwa [h2] at hk
 | .prod a b,p,x,g, .fst::s,y,hr,hs,k,hk=>by
  simp only[sub] at hs;simp only[inR] at hr;simp only[ghAt] at hk;simp only[foot,List.mem_append];exact .inl (Zbl (w:=w) (T:=T) a _ _ _ s y hr hs k hk)
 | .prod a b,p,x,g, .snd::s,y,hr,hs,k,hk=>by
  simp only[sub] at hs;simp only[inR] at hr;simp only[ghAt] at hk;simp only[foot,List.mem_append];exact .inr (Zbl (w:=w) (T:=T) b _ _ _ s y hr hs k hk)
 | .arr n t,p,xs,g, .idx i::s,y,hr,hs,k,hk=>by
  simp only[sub] at hs;simp only[inR] at hr;simp only[ghAt] at hk;have:=Zbl (w:=w) (T:=T) t _ _ _ s y hr.2 hs k hk;rw[foot_ro] at this;cases this
 | .slice e t, .own q,xs,g, .idx i::s,y,hr,hs,k,hk=>by
  simp only[sub] at hs;simp only[inR] at hr;simp only[ghAt] at hk;simp only[foot,List.mem_append];exact .inr (Zw.2 ⟨i,hr.1,Zbl (w:=w) (T:=T) t _ _ _ s y hr.2 hs k hk⟩)
 | .slice e t, .hole z0 q,xs,g, .idx i::s,y,hr,hs,k,hk=>by
  simp only[sub] at hs;simp only[inR] at hr;simp only[ghAt] at hk;simp only[foot,List.mem_append];exact .inr (Zw.2 ⟨i,hr.1,Zbl (w:=w) (T:=T) t _ _ _ s y hr.2 hs k hk⟩)
 | .int _,_,_,_,_::_,_,_,hs,_,_ | .bool,_,_,_,_::_,_,_,hs,_,_ | .str,_,_,_,_::_,_,_,hs,_,_ | .err,_,_,_,_::_,_,_,hs,_,_=>by simp [sub] at hs
 | .prod _ _,_,_,_, .idx _::_,_,_,hs,_,_ | .arr _ _,_,_,_, .fst::_,_,_,hs,_,_ | .arr _ _,_,_,_, .snd::_,_,_,hs,_,_=>by simp [sub] at hs
 | .slice _ _, .own _,_,_, .fst::_,_,_,hs,_,_ | .slice _ _, .own _,_,_, .snd::_,_,_,hs,_,_ | .slice _ _, .hole _ _,_,_, .fst::_,_,_,hs,_,_ | .slice _ _, .hole _ _,_,_, .snd::_,_,_,hs,_,_=>by simp [sub] at hs
 | .slice _ _, .ro,_,_,_::_,_,_,hs,_,_ | .slice _ _, .dead,_,_,_::_,_,_,hs,_,_ | .slice _ _, .pr _ _,_,_,_::_,_,_,hs,_,_=>by simp [sub] at hs
theorem Zbc:∀(t:Ty) (p:Perm) (x:t.den) (s:Path) (y:Sub),sub t p x s=some y→∀e,e∈rowTys y.ty→e∈rowTys t
 | t,p,x,[],y,hs,e,he=>by
  have:y=⟨t,p,x⟩:=by cases t<;>cases p<;>simpa [sub,eq_comm] using hs
  subst this;exact he
 | .prod a b,p,x, .fst::s,y,hs,e,he=>by
  simp only[sub] at hs;simp only[rowTys,List.mem_append];exact .inl (Zbc a _ _ s y hs e he)
 | .prod a b,p,x, .snd::s,y,hs,e,he=>by
  simp only[sub] at hs;simp only[rowTys,List.mem_append];exact .inr (Zbc b _ _ s y hs e he)
 | .arr n t,p,xs, .idx i::s,y,hs,e,he=>by
  simp only[sub] at hs;exact Zbc t _ _ s y hs e he
 | .slice e' t, .own q,xs, .idx i::s,y,hs,e,he=>by
  simp only[sub] at hs;simp only[rowTys,List.mem_cons];exact .inr (Zbc t _ _ s y hs e he)
 | .slice e' t, .hole z0 q,xs, .idx i::s,y,hs,e,he=>by
  simp only[sub] at hs;simp only[rowTys,List.mem_cons];exact .inr (Zbc t _ _ s y hs e he)
 | .int _,_,_,_::_,_,hs,_,_ | .bool,_,_,_::_,_,hs,_,_ | .str,_,_,_::_,_,hs,_,_ | .err,_,_,_::_,_,hs,_,_=>by simp [sub] at hs
 | .prod _ _,_,_, .idx _::_,_,hs,_,_ | .arr _ _,_,_, .fst::_,_,hs,_,_ | .arr _ _,_,_, .snd::_,_,hs,_,_=>by simp [sub] at hs
 | .slice _ _, .own _,_, .fst::_,_,hs,_,_ | .slice _ _, .own _,_, .snd::_,_,hs,_,_ | .slice _ _, .hole _ _,_, .fst::_,_,hs,_,_ | .slice _ _, .hole _ _,_, .snd::_,_,hs,_,_=>by simp [sub] at hs
 | .slice _ _, .ro,_,_::_,_,hs,_,_ | .slice _ _, .dead,_,_::_,_,hs,_,_ | .slice _ _, .pr _ _,_,_::_,_,hs,_,_=>by simp [sub] at hs
theorem Zk4 {E:Env} {st:St} {w:World} {T1:TypeId→Nat→Prop} {t:Ty} {r:Reg} {x:t.den} {v:Value} (hm:Mem w0 F0 T0 E st.blk w) (h:argOf st t r=some x) (hr:RegOk E w (Tch T0 E st.blk w) st.blk r v)
  (hT1:∀e k,Tch T0 E st.blk w e k→T1 e k) (hl:∀b,b∈lent [r]→∀kb,st.blk b=some kb→∀e,e∈rowTys kb.ty→∀k,k∈feet E st.blk b→T1 e k):∃g,v=toV t (cells t x g)∧Holds w T1 t .ro x g:=by
 unfold argOf at h;split at h
 case h_2=>cases h
 rename_i c hc;split at h
 case isFalse=>cases h
 rename_i hnd;cases h;by_cases hsl:∃b s lo n,r= .sl b s lo n
 ·obtain ⟨b,s,lo,n,rfl⟩:=hsl
  obtain ⟨k,e,u,q,xs,h1,h2,h3,h4,A,cap,h5,h6,h7,h8,h9⟩:=hr;unfold contAs at hc;have hb0:st.blkU [] b=some k:=h1;simp only[contOf,Reg.cont,hb0,h2] at hc;split at hc
  case isFalse=>cases hc
  rename_i he;subst he;cases hc;simp only[castTo];simp only[Perm.noDead] at hnd;have hho:=ZD _ _ _ _ _ _ (hm.blks b k h1).holds h3 h2;obtain ⟨r1,r2⟩:=ZbK (e:=e) (u:=u) (q:=q) (xs:=xs) hho;have hlen:((xs.drop lo).take n).length=n:=by simp;omega
  have hget:∀i,i<n→((xs.drop lo).take n).getD i u.dflt=xs.getD (lo+i) u.dflt:=fun i hi=>by
   simp only[List.getD_eq_getElem?_getD,List.getElem?_take,List.getElem?_drop];rw[if_pos hi]
  have hfeet:∀e',e'∈rowTys (.slice e u)→∀j,j∈foot (.slice e u) (.own q) xs (ghAt k.ty (E.g b) s)→T1 e' j:=fun e' he' j hj=>
   hl b (by simp [lent]) k h1 e' (Zbc _ _ _ _ _ h2 e' he') j (Zk h1 (Zbl (w:=w) (T:=T1) _ _ _ _ _ _ h3 h2 j hj))
  have hfe:∀i,i<xs.length→∀e',e'∈rowTys u→∀j,j∈foot u q (xs.getD i u.dflt) ((ghAt k.ty (E.g b) s).at i)→T1 e' j:=fun i hi e' he' j hj=>hfeet e' (by simp [rowTys,he']) j (by
   simp only[foot,List.mem_append];exact .inr (Zw.2 ⟨i,hi,hj⟩))
  refine ⟨.row (.slice A n cap) (fun i=>(ghAt k.ty (E.g b) s).at (lo+i)),by rw[h5];simp [toV,Ty.agg,cells,Gh.head], ?_⟩
  simp only[Holds,Gh.head,Gh.at];refine ⟨⟨A,cap,by rw[hlen],by rw[hlen];exact h6,fun _=>h8,h7,fun hne=> ?_,fun ad had=> ?_⟩,fun i hi=> ?_⟩
  ·have hn:0<n:=by rw[←hlen];exact List.length_pos_iff.2 hne
   obtain ⟨ad,had,hadd⟩:=h9 0 hn;refine ⟨ad,had, ?_⟩;obtain ⟨kk,cap',cur,hv,hbb,hbase,_⟩:=ZS r1 (by omega);have hblk:ad.block=kk:=by
    have:=congrArg Addr.block hadd;rw[Zs,Zs,hbase] at this;exact this
   rw[hblk];exact hfeet e (by simp [rowTys]) kk (by simp only[foot,List.mem_append];exact .inl (by simp [hbb]))
  ·rw[hlen]
   by_cases hn:n=0
   ·subst hn;intro j v hj;simp [catN] at hj
   ·refine memAt_catN (h8 ad had) (fun _ _=>Za _ _ _) (fun i hi=> ?_)
    rw[hget i hi];obtain ⟨ad',had',hadd⟩:=h9 i hi;rw[had] at had';cases had';rw[hadd];obtain ⟨kk,cap',cur,hv,hbb,hbase,_,_,_,_,hx⟩:=ZS r1 (by omega);rw[hbase];exact hx.elem rfl (fun _ _=>Za _ _ _) (lo+i) (by omega)
  ·rw[hlen] at hi
   rw[hget i hi];exact Zax hT1 _ _ _ _ (r2 (lo+i) (by omega)) hnd (hfe (lo+i) (by omega))
 ·obtain ⟨g,hv,hho⟩:=ZdB (st:=st) (U:=[]) hm (fun b k h=>h) (fun b s lo n e=>hsl ⟨b,s,lo,n,e⟩) hc hr
  cases r with
  | vw b s=>
   obtain ⟨k,y,h1,h2,h3,h4⟩:=hr;unfold contAs at hc;have hb0:st.blkU [] b=some k:=h1;simp only[contOf,Reg.cont,hb0,h2] at hc;split at hc
   case isFalse=>cases hc
   rename_i he;subst he;cases hc;simp only[castTo];refine ⟨ghAt k.ty (E.g b) s,h4,Zax hT1 _ _ _ _ (ZD _ _ _ _ _ _ (hm.blks b k h1).holds h3 h2) hnd (fun e' he' j hj=> ?_)⟩;exact hl b (by simp [lent]) k h1 e' (Zbc _ _ _ _ _ h2 e' he') j (Zk h1 (Zbl (w:=w) (T:=T1) _ _ _ _ _ _ h3 h2 j hj))
  | val t' x'=>
   unfold contAs at hc;simp only[contOf,Reg.cont] at hc;split at hc
   case isFalse=>cases hc
   rename_i he;subst he;cases hc;obtain ⟨g',h1,h2⟩:=hr;exact ⟨g',h2,Holds.agree _ _ _ _ h1 (by simp [foot_ro]) (fun i k hk=>⟨rfl,hT1 i k hk⟩)⟩
  | nilS=>
   unfold contAs at hc;simp only[contOf] at hc;cases t with
   | slice e u'=>
    simp only[dite_true,Option.some.injEq] at hc;subst hc;have hv':v= .slice none 0 0:=hr;refine ⟨.row (.slice none 0 0) fun _=> .leaf,by simpa [toV,Ty.agg,cells,Gh.head] using hv', ?_⟩;exact Zax hT1 _ _ _ _ (Zdb w (Tch T0 E st.blk w) e u' u'.zp) hnd (fun _ _ j hj=>by simp [castTo,foot,Gh.head,Value.ownBlock,catF] at hj)
   | _=>simp at hc
  | sl b s lo n=>exact absurd ⟨b,s,lo,n,rfl⟩ hsl
  | _=>simp [contAs,contOf,Reg.cont] at hc
theorem ZmP (r:Reg) (rs:List Reg):lent (r::rs)=lent [r]++lent rs:=by cases r<;>rfl
theorem Zkn {E:Env} {st:St} {a:Act} {w:World} {T1:TypeId→Nat→Prop} (hS:Sim w0 F0 T0 E st a w) (hT1:∀e k,Tch T0 E st.blk w e k→T1 e k):∀(l:List Ty) (os:List Operand) (xs:ADen l),argsOf st l (regsOf st os)=some xs→
  (∀b,b∈lent (regsOf st os)→∀kb,st.blk b=some kb→∀e,e∈rowTys kb.ty→∀k,k∈feet E st.blk b→T1 e k)→ArgsOk w T1 l xs (os.map a.eval)
 | [],[],xs,_,_=>rfl
 | [],o::os,xs,h,_=>by simp [regsOf,argsOf] at h
 | t::l,[],xs,h,_=>by simp [regsOf,argsOf] at h
 | t::l,o::os,xs,h,hl=>by
  simp only[regsOf,argsOf] at h;simp only[regsOf] at hl;rw[ZmP] at hl;split at h
  case h_2=>cases h
  rename_i x hx;split at h
  case h_2=>cases h
  rename_i xs' hxs;cases h;obtain ⟨g,h1,h2⟩:=Zk4 hS.mem hx (Zr hS o) hT1 (fun b hb=>hl b (List.mem_append_left _ hb))
  exact ⟨g,_,by simp only[List.map_cons,h1],h2,Zkn hS hT1 l os xs' hxs (fun b hb=>hl b (List.mem_append_right _ hb))⟩
end
end Go.Rx

