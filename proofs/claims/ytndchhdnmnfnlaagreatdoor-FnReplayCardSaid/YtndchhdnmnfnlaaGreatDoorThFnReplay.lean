/- This text proves, of the plain functions behind FnReplay, that the law answers true (part 3 of 3); no condition beyond the ranges that its arguments have. -/
import Derived.Test.YtndchhdnmnfnlaaGreatDoorThBFnReplay
set_option linter.unusedVariables false
set_option linter.unusedSimpArgs false
namespace Go.Rx.Px
theorem Ze6 {N:Nat} {cu:Cu} {k:Nat} (hN:4194304≤N) (h:Bud cu (k+14)):∃s c',Q80 N cu=some (s,c')∧Bud c' k∧s.size≤400:=by
 have sc:∀x y:Xo,(scat x y).size=x.size+y.size:=fun x y=>by rw[Zd,ZeV,Xm];rfl
 obtain ⟨r,c1,e1,b1,v1,v1'⟩:=ZG (N:=N) (k:=k+12) 6 (h.mono (by omega));obtain ⟨q,c2,e2,b2,v2,v2'⟩:=ZX (N:=N) (k:=k+10) (list:=[0,1,3,8,20,5]) 0 20 (by decide) (by decide) b1;have ha:(txt (numT r)).size≤30:=by have:=ZdH (n:=r) (by omega) (by omega);show (numT r).length≤30;omega
 have hb:(txt (numT q)).size≤30:=by have:=ZdH (n:=q) (by omega) (by omega);show (numT q).length≤30;omega
 simp only[Q80,e1,e2,Xa,Zu (n:=r) (by omega) (by omega) hN,Zu (n:=q) (by omega) (by omega) hN];generalize txt (numT r)=a at ha ⊢;generalize txt (numT q)=b at hb ⊢;have ha':a.data.size≤30:=ha;have hb':b.data.size≤30:=hb;have ze:∀x:Array UInt8,(⟨x⟩:Xo).size=x.size:=fun _=>rfl
 iterate 16 rw[Zf (Zy ?_)]
 any_goals (simp only[sc,ze,List.size_toArray,List.length_cons,List.length_nil];omega)
 obtain ⟨s,c3,e3,b3,s3⟩:=ZnY (N:=N) (k:=k+8) (list:=[scat (scat (⟨#[112,101,114,105,111,100,32]⟩:Xo) b) (⟨#[32,53,32,49,32,49]⟩:Xo),scat (scat (⟨#[112,101,114,105,111,100,32,51,32]⟩:Xo) b) (⟨#[32,48,32,50]⟩:Xo),scat (scat (scat (⟨#[110,101,101,100,32]⟩:Xo) a) (⟨#[32]⟩:Xo)) b,scat (scat (scat (⟨#[111,114,100,101,114,32]⟩:Xo) a) (⟨#[32]⟩:Xo)) b,scat (scat (scat (⟨#[111,114,100,101,114,32]⟩:Xo) a) (⟨#[32]⟩:Xo)) b,(⟨#[115,116,101,112]⟩:Xo),(⟨#[115,116,101,112]⟩:Xo),(⟨#[114,101,112,108,97,110]⟩:Xo),(⟨#[114,101,112,108,97,110]⟩:Xo),(⟨#[99,108,101,97,114]⟩:Xo),(⟨#[110,111,119]⟩:Xo),(⟨#[115,116,111,99,107]⟩:Xo),(⟨#[99,111,115,116]⟩:Xo),(⟨#[97,104,101,97,100]⟩:Xo),(⟨#[115,104,111,114,116]⟩:Xo),(⟨#[108,101,102,116]⟩:Xo),(⟨#[112,108,97,110]⟩:Xo),(⟨#[99,97,115,101]⟩:Xo),(⟨#[98,101,115,116]⟩:Xo),(⟨#[116,97,98,108,101]⟩:Xo),(⟨#[116,117,114,110,115]⟩:Xo),(⟨#[104,111,114,105,122,111,110,115]⟩:Xo),(⟨#[112,114,105,99,101,115]⟩:Xo),scat (⟨#[114,117,108,101,32]⟩:Xo) a,scat (⟨#[103,97,112,32]⟩:Xo) a,scat (⟨#[102,114,101,115,104,32]⟩:Xo) a,(⟨#[110,101,101,100,32,49]⟩:Xo),(⟨#[115,116,101,112,32,49]⟩:Xo),(⟨#[112,101,114,105,111,100,32,49,32,50,32,51]⟩:Xo),(⟨#[114,117,108,101,32,120]⟩:Xo),(⟨#[119,104,97,116]⟩:Xo),(⟨#[]⟩:Xo),(⟨#[97,35]⟩:Xo),(⟨#[111,114,100,101,114,32,45,49,32,50]⟩:Xo)]) 150 (by simp) (fun x hx=>by
  simp only[List.mem_cons,List.not_mem_nil,or_false] at hx;rcases hx with rfl | rfl | rfl | rfl | rfl | rfl | rfl | rfl | rfl | rfl | rfl | rfl | rfl | rfl | rfl | rfl | rfl | rfl | rfl | rfl | rfl | rfl | rfl | rfl | rfl | rfl | rfl | rfl | rfl | rfl | rfl | rfl | rfl | rfl<;>simp only[sc,ze,List.size_toArray,List.length_cons,List.length_nil]<;>omega) (b2.mono (by omega))
 obtain ⟨w,c4,e4,b4⟩:=Zg0 (N:=N) (k:=k+6) 24 b3;rw[e3];simp only[Xa,e4];cases w with
 | false=>exact ⟨s,c4,rfl,b4.mono (by omega),by omega⟩
 | true=>
  obtain ⟨v,c5,e5,b5,s5⟩:=Zj3 (N:=N) (k:=k) (t:=s) (w:=⟨#[32,48,49,97]⟩) (by omega) (by decide) b4;simp only[Xd,e5,Xa];exact ⟨v,c5,rfl,b5,by omega⟩
theorem Zoq (l:Lo) (e:Xo×Xo):(appT l e).2=0→(appT l e).1.2.2=l.2.2+1:=by
 unfold appT;split
 ·split
  ·intro h;cases h
  ·intro _;rfl
 ·intro h;cases h
theorem Zkg {N:Nat} {v:Con} (hN:4194304≤N):∀(d k:Nat) (cu:Cu) (x:Con),(60 - x.2.2.2).toNat≤d→d≤70→ -100≤x.2.2.2→SmCon x→Bud cu (k+2+2*d)→∃out c',(∀m,d<m→Q78_L1 N m cu v x=some (out,c'))∧Bud c' k∧SmCon out
 | d,k,cu,x,hd,h70,h0,hx,h=>by
  obtain ⟨r,c1,e1,b1,v1,v1'⟩:=ZG (N:=N) (k:=k+2*d) 2 (h.mono (by omega));have i1:iadd .i64 59 r=59+r:=Zh (by omega) (by omega);by_cases hlt:x.2.2.2<59+r
  ·have ea:=Zao (N:=N) (l:=x.2) (e:=((⟨#[110,111,119]⟩:Xo),(⟨#[63]⟩:Xo))) hx.2.1 hx.2.2 (show (⟨#[110,111,119]⟩:Xo).size<4194304 by decide) (show (⟨#[63]⟩:Xo).size<4194304 by decide) hN
   by_cases hs:(appT x.2 ((⟨#[110,111,119]⟩:Xo),(⟨#[63]⟩:Xo))).2=0
   ·obtain ⟨d',rfl⟩:∃d',d=d'+1:=⟨d - 1,by omega⟩
    have hc:=Zoq x.2 _ hs;have hsm:SmCon (x.1,(appT x.2 ((⟨#[110,111,119]⟩:Xo),(⟨#[63]⟩:Xo))).1):=⟨hx.1,Zoo hx.2.1 hx.2.2 _⟩;obtain ⟨out,c',o1,o2,o3⟩:=Zkg (v:=v) hN d' k c1 (x.1,(appT x.2 ((⟨#[110,111,119]⟩:Xo),(⟨#[63]⟩:Xo))).1) (by show (60 - (appT x.2 _).1.2.2).toNat≤d';rw[hc];omega) (by omega) (by show -100≤(appT x.2 _).1.2.2;rw[hc];omega) hsm (b1.mono (by omega))
    refine ⟨out,c',fun m hm=> ?_,o2,o3⟩;obtain ⟨m',rfl⟩:∃m',m=m'+1:=⟨m - 1,by omega⟩
    rw[Q78_L1_succ];simp only[Q78_B1,e1,Xa,ilt_eq,i1,Xc hlt,Xd,ea,ine_eq,hs,Xf,Bool.not_true,Xe];exact o1 m' (by omega)
   ·refine ⟨x,c1,fun m hm=> ?_,b1.mono (by omega),hx⟩
    obtain ⟨m',rfl⟩:∃m',m=m'+1:=⟨m - 1,by omega⟩
    rw[Q78_L1_succ];simp only[Q78_B1,Q78_K1,e1,Xa,ilt_eq,i1,Xc hlt,Xd,ea,ine_eq,Xb hs,Bool.not_false]
  ·refine ⟨x,c1,fun m hm=> ?_,b1.mono (by omega),hx⟩
   obtain ⟨m',rfl⟩:∃m',m=m'+1:=⟨m - 1,by omega⟩
   rw[Q78_L1_succ];simp only[Q78_B1,Q78_K1,e1,Xa,ilt_eq,i1,Xb hlt,Xe]
def CntP (c:Con):Prop:=0≤c.2.2.2∧c.2.2.2≤60
theorem Zqq {l:Lo} {e:Xo×Xo} (h:0≤l.2.2∧l.2.2≤60):0≤(appT l e).1.2.2∧(appT l e).1.2.2≤60:=by
 unfold appT;split
 ·rename_i hv
  split
  ·exact h
  ·rename_i hk
   have hl:=Zgn.1 hv.1;have:=Zfw 60 0 (bts l.1++bts l.2.1);have:=hl.ct;exact ⟨by show 0≤l.2.2+1;omega,by show l.2.2+1≤60;omega⟩
 ·exact h
theorem Zqr {c:Con} {s:Xo} {r:Con×Xo} (h:Did c s r) (hc:CntP c):CntP r.1:=by
 rcases h with h | ⟨_,_,_,h,_⟩
 ·rw[h];exact hc
 ·unfold CntP;rw[h];exact Zqq hc
theorem ZpB {N:Nat} {v:Con} (hN:4194304≤N) {k:Nat} {cu:Cu} {x:Con} (hx:SmCon x) (hc:CntP x) (h:Bud cu (k+200)):∃out c',Q78_K2 N cu v x=some (out,c')∧Bud c' k∧SmCon out:=by
 obtain ⟨r,c1,e1,b1,v1,v1'⟩:=ZG (N:=N) (k:=k+198) 40 h;have z0:(⟨#[]⟩:Xo).size<4194304:=by decide
 simp only[Q78_K2,e1,Xa,ieq_eq];by_cases q0:r=0
 ·rw[Xc q0]
  exact ⟨_,_,rfl,b1.mono (by omega),⟨⟨hx.1.c,hx.1.p⟩,hx.2⟩⟩
 by_cases q1:r=1
 ·rw[Xb q0,Xc q1]
  exact ⟨_,_,rfl,b1.mono (by omega),⟨hx.1,hx.2⟩⟩
 by_cases q2:r=2
 ·rw[Xb q0,Xb q1,Xc q2]
  exact ⟨_,_,rfl,b1.mono (by omega),⟨hx.1,z0,z0⟩⟩
 by_cases q3:r=3
 ·rw[Xb q0,Xb q1,Xb q2,Xc q3]
  obtain ⟨out,c',o1,o2,o3⟩:=Zkg (v:=v) hN 60 k c1 x (by have:=hc.1;omega) (by omega) (by have:=hc.1;omega) hx (b1.mono (by omega))
  exact ⟨out,c',o1 N (by omega),o2,o3⟩
 ·rw[Xb q0,Xb q1,Xb q2,Xb q3]
  exact ⟨_,_,rfl,b1.mono (by omega),hx⟩
theorem Zl0 {N:Nat} {v:Con} {ok:Bool} (hN:4194304≤N):∀(d k:Nat) (cu:Cu) (x:Con),d≤100→SmCon x→CntP x→Bud cu (k+200+14*d)→∃out c',(∀m,d<m→Q78_L2 N m ok d cu v x=some (out,c'))∧Bud c' k∧SmCon out
 | 0,k,cu,x,_,hx,hc,h=>by
  obtain ⟨out,c',e,b,s⟩:=ZpB (N:=N) (k:=k) (v:=v) hN hx hc (h.mono (by omega));refine ⟨out,c',fun m hm=> ?_,b,s⟩;obtain ⟨m',rfl⟩:∃m',m=m'+1:=⟨m - 1,by omega⟩
  rw[Q78_L2_succ];simp only[Q78_B2,ilt_eq,show decide ((0:Int)<((0:Nat):Int))=false by decide,Xe,e]
 | d+1,k,cu,x,hd,hx,hc,h=>by
  have hd1:isub .i64 ((d+1:Nat):Int) 1=(d:Int):=by rw[Zv (by omega) (by omega)];omega
  have hpos:decide ((0:Int)<((d+1:Nat):Int))=true:=Xc (by omega);cases ok with
  | false=>
   obtain ⟨out,c',e,b,s⟩:=ZpB (N:=N) (k:=k) (v:=v) hN hx hc (h.mono (by omega));refine ⟨out,c',fun m hm=> ?_,b,s⟩;obtain ⟨m',rfl⟩:∃m',m=m'+1:=⟨m - 1,by omega⟩
   rw[Q78_L2_succ];simp only[Q78_B2,ilt_eq,hpos,Xd,Xe,e]
  | true=>
   obtain ⟨s,c1,e1,b1,s1⟩:=Ze6 (N:=N) (k:=k+200+14*d) hN (h.mono (by omega));obtain ⟨_,x2,x3,_,x5⟩:=ZmC hx (s:=s) (by omega) hN;obtain ⟨out,c',e,b,s'⟩:=Zl0 (v:=v) (ok:=true) hN d k c1 (exC N x s).1 (by omega) x3 (Zqr x5 hc) b1;refine ⟨out,c',fun m hm=> ?_,b,s'⟩;obtain ⟨m',rfl⟩:∃m',m=m'+1:=⟨m - 1,by omega⟩
   rw[Q78_L2_succ];simp only[Q78_B2,ilt_eq,hpos,Xd,e1,Xa,x2,hd1];exact e m' (by omega)
theorem ZmD (l:Lg):CntP (newCon l).1:=by
 unfold newCon CntP;cases ledB l<;>exact ⟨Int.le_refl _,by show (0:Int)≤60;omega⟩
theorem ZmE {N:Nat} {cu:Cu} {k:Nat} (hN:4194304≤N) (h:Bud cu (k+2000)):∃c c',Q78 N cu=some (c,c')∧Bud c' k∧SmCon c:=by
 obtain ⟨l,c1,e1,b1,s1⟩:=Zj4 (N:=N) (k:=k+500) hN h;obtain ⟨r,c2,e2,b2,v1,v2⟩:=ZG (N:=N) (k:=k+498) 6 b1;obtain ⟨d,rfl⟩:∃d:Nat,r=d:=⟨r.toNat,by omega⟩
 obtain ⟨out,c',e4,b4,s4⟩:=Zl0 (N:=N) (v:=((([],([],([],[]))),([],0)),((⟨#[]⟩:Xo),((⟨#[]⟩:Xo),0)))) (ok:=(newCon l).2) hN d k c2 (newCon l).1 (by omega) (Ze5 s1) (ZmD l) (b2.mono (by omega));exact ⟨out,c',by simp only[Q78,e1,e2,Za2 s1 hN,Xa,e4 N (by omega)],b4,s4⟩
theorem Zhk {N:Nat} {v x:Con} (hN:4194304≤N):∀(d k:Nat) (cu:Cu) (s:Xo),d≤100→s.size+500*d≤100000→Bud cu (k+14*d)→∃out,(∀m,d<m→Q97_L1 N m s d v cu x=some ((x,out),()))∧out.size≤s.size+500*d
 | 0,k,cu,s,_,_,h=>by
  refine ⟨s,fun m hm=> ?_,by omega⟩;obtain ⟨m',rfl⟩:∃m',m=m'+1:=⟨m - 1,by omega⟩
  rw[Q97_L1_succ];simp only[Q97_B1,Q97_K1,ilt_eq,show decide ((0:Int)<((0:Nat):Int))=false by decide,Xe]
 | d+1,k,cu,s,hd,hs,h=>by
  have sc:∀x y:Xo,(scat x y).size=x.size+y.size:=fun x y=>by rw[Zd,ZeV,Xm];rfl
  have hd1:isub .i64 ((d+1:Nat):Int) 1=(d:Int):=by rw[Zv (by omega) (by omega)];omega
  obtain ⟨t,c1,e1,b1,s1⟩:=Ze6 (N:=N) (k:=k+14*d) hN (h.mono (by omega));have z1:(scat s (⟨#[10]⟩:Xo)).size=s.size+1:=sc _ _;have z2:(scat (scat s (⟨#[10]⟩:Xo)) t).size=s.size+1+t.size:=by rw[sc,z1]
  obtain ⟨out,e,b⟩:=Zhk (v:=v) (x:=x) hN d k c1 (scat (scat s (⟨#[10]⟩:Xo)) t) (by omega) (by omega) b1;refine ⟨out,fun m hm=> ?_,by omega⟩;obtain ⟨m',rfl⟩:∃m',m=m'+1:=⟨m - 1,by omega⟩
  rw[Q97_L1_succ];simp only[Q97_B1,ilt_eq,Xc (show (0:Int)<((d+1:Nat):Int) by omega),Xd,Zf (Zy (x:=s) (y:=⟨#[10]⟩) (by have:(⟨#[10]⟩:Xo).size=1:=rfl;omega)),e1,Xa,Zf (Zy (x:=scat s (⟨#[10]⟩:Xo)) (y:=t) (by omega)),hd1]
  exact e m' (by omega)
theorem Zi6 {N:Nat} {code:List Int} (h:Bud (code,(0,0)) 4000) (hN:4194304≤N):∃c s,Q97 N code=some ((c,s),())∧SmCon c∧s.size<4194304:=by
 obtain ⟨c,c1,e,b,s⟩:=ZmE (N:=N) (k:=600) hN (h.mono (by omega));obtain ⟨t,c2,e2,b2,s2⟩:=Ze6 (N:=N) (k:=586) hN b;obtain ⟨r,c3,e3,b3,v1,v2⟩:=ZG (N:=N) (k:=584) 24 b2;have hq:iquo .i64 r 23=r / 23:=by
  show IntKind.i64.wrap (r.tdiv 23)=_;rw[Int.tdiv_eq_ediv_of_nonneg v1,Zcg (by omega) (by omega)]
 have hq2:iquo .i64 r 23=0∨iquo .i64 r 23=1:=by rw[hq];omega
 have key:∀q:Int,q=0∨q=1→∃w c4,Q75 N c3 (List.take ((iadd .i64 8 q).toNat - 0) (List.drop 0 [0,1,2,3,4,5,6,7,30]))=some (w,c4)∧Bud c4 582∧0≤w∧w≤30∧cutB 0 (iadd .i64 8 q) 9=true:=fun q hq=>by
  rcases hq with rfl | rfl
  ·obtain ⟨w,c4,e4,b4,w1,w2⟩:=ZX (N:=N) (k:=582) (list:=List.take ((iadd .i64 8 0).toNat - 0) (List.drop 0 [0,1,2,3,4,5,6,7,30])) 0 30 (by decide) (by decide) b3
   exact ⟨w,c4,e4,b4,w1,w2,by decide⟩
  ·obtain ⟨w,c4,e4,b4,w1,w2⟩:=ZX (N:=N) (k:=582) (list:=List.take ((iadd .i64 8 1).toNat - 0) (List.drop 0 [0,1,2,3,4,5,6,7,30])) 0 30 (by decide) (by decide) b3
   exact ⟨w,c4,e4,b4,w1,w2,by decide⟩
 obtain ⟨w,c4,e4,b4,w1,w2,hcut⟩:=key _ hq2;obtain ⟨d,rfl⟩:∃d:Nat,w=d:=⟨w.toNat,by omega⟩
 obtain ⟨out,o1,o2⟩:=Zhk (N:=N) (v:=((([],([],([],[]))),([],0)),((⟨#[]⟩:Xo),((⟨#[]⟩:Xo),0)))) (x:=c) hN d 0 c4 t (by omega) (by omega) (b4.mono (by omega));refine ⟨c,out, ?_,s,by omega⟩;simp only[Q97,e,e2,e3,Xa,show ine 23 0=true by decide,chk_true',hcut,e4];exact o1 N (by omega)
theorem Zqs (b:Bool):Go.Rx.beq b b=true:=by cases b<;>rfl
theorem ZmF {c:Con} {s:Xo} {r:Con×Xo} (h:Did c s r) (hc:conB c=true):r.1=c∨(conB r.1=true∧rdR 60 0 (bts r.1.2.1++bts r.1.2.2.1)=rdR 60 0 (bts c.2.1++bts c.2.2.1)++[(s,r.2)]∧r.1.2.2.2=c.2.2.2+1∧(r.1.1=c.1∨RepP r.2))∨(r.1.2=c.2∧conB r.1=true∧(r.1.1=c.1∨RepP r.2)∧recB (s,r.2)=false∧cmdB s=true):=by
 rcases h with h | ⟨_,hm,hk,hl,hb,hf⟩
 ·exact .inl h
 have hv:logB c.2=true:=by
  simp only[conB,Xh] at hc;exact hc.2
 cases hr:recB (s,r.2) with
 | true=>
  obtain ⟨f1,f2,_⟩:=ZeZ hv hr hk;have e:(appT c.2 (s,r.2)).1=(c.2.1,txt (bts c.2.2.1++lineOf c.2.2.2 (s,r.2)),c.2.2.2+1):=by
   unfold appT;rw[if_pos ⟨hv,hr⟩,if_neg hk]
  rw[e] at hl;refine .inr (.inl ⟨?_, ?_, ?_,hf⟩)
  ·simp only[conB,hb,hl,Bool.true_and];exact Zgn.2 f1
  ·rw[hl];exact f2
  ·rw[hl]
 | false=>
  have e:(appT c.2 (s,r.2)).1=c.2:=by
   unfold appT;rw[if_neg (by rw[hr];simp)]
  rw[e] at hl;exact .inr (.inr ⟨hl,by simp only[conB,hb,hl,hv,Bool.and_true],hf,rfl,hm⟩)
theorem Zor {N:Nat} {xs ys:List Xo} {c:Con}:∀n,(∀i,i<n→gd xs i ⟨#[]⟩=gd ys i ⟨#[]⟩)→goC N xs c n=goC N ys c n
 | 0,_=>rfl
 | n+1,h=>by
  simp only[goC];rw[Zor n (fun i hi=>h i (by omega)),h n (by omega)]
def RepC (N:Nat) (c0 c:Con):Prop:=
 conB c=true∧goC N (cmdsOf (rdR 60 0 (bts c.2.1++bts c.2.2.1))) c0 (rdR 60 0 (bts c.2.1++bts c.2.2.1)).length=c∧∀i,i<(rdR 60 0 (bts c.2.1++bts c.2.2.1)).length→okAt N (rdR 60 0 (bts c.2.1++bts c.2.2.1)) c0 i
theorem ZmG {r:Xo} (h:RepP r):plB r=true∧hasB r 35=false:=by
 refine ⟨ZnO.2 fun c hc=>by have:=h.2 c hc;omega, ?_⟩
 cases hh:hasB r 35 with
 | false=>rfl
 | true=>
  obtain ⟨i,hi,hc⟩:=Zcd.1 hh;have hm:(r[i]?.getD 0)∈bts r:=List.mem_of_getElem? (ZeU r i hi);have:=h.2 _ hm;have hc':(r[i]?.getD 0).toNat=35:=hc;omega
theorem Zq0 {s r:Xo} (hm:cmdB s=true) (h:RepP r):recB (s,r)=true:=by
 obtain ⟨h1,h2⟩:=ZmG h;have h3:decide ((r.size:Int)≤200)=true:=Xc (by have:=h.1;omega)
 rw[←Zon] at hm;simp only[recB,Xh,Bool.not_eq_true'] at hm ⊢;exact ⟨hm.1,hm.2.1,hm.2.2.1,hm.2.2.2.1,hm.2.2.2.2.1,h1,h3,h2⟩
theorem Zpm {N:Nat} {c0 c:Con} {s:Xo} {r:Con×Xo} (h:RepC N c0 c) (hd:Did c s r) (hr:exC N c s=r):RepC N c0 r.1:=by
 obtain ⟨hc,hg,ho⟩:=h;rcases ZmF hd hc with e | ⟨e1,e2,_,_⟩ | ⟨e1,e2,e3,e4,e5⟩
 ·rw[e];exact ⟨hc,hg,ho⟩
 ·unfold RepC
  rw[e2];generalize rdR 60 0 (bts c.2.1++bts c.2.2.1)=R at hg ho;have hpre:∀i,i<R.length→gd (cmdsOf (R++[(s,r.2)])) i ⟨#[]⟩=gd (cmdsOf R) i ⟨#[]⟩:=fun i hi=>by
   rw[Zdt,Zdt,Zam hi]
  have hlast:gd (R++[(s,r.2)]) R.length noR=(s,r.2):=by simp [gd]
  have hgo:∀i,i≤R.length→goC N (cmdsOf (R++[(s,r.2)])) c0 i=goC N (cmdsOf R) c0 i:=fun i hi=>Zor i (fun j hj=>hpre j (by omega))
  refine ⟨e1, ?_,fun i hi=> ?_⟩
  ·rw[Xm,List.length_singleton]
   simp only[goC];rw[hgo R.length (Xl _),hg,Zdt,hlast,hr]
  ·rw[Xm,List.length_singleton] at hi
   unfold okAt;by_cases hi2:i<R.length
   ·rw[hgo i (by omega),Zam hi2]
    exact ho i hi2
   ·obtain rfl:i=R.length:=by omega
    rw[hgo R.length (Xl _),hg,hlast,hr]
 ·have el:r.1.1=c.1:=by
   rcases e3 with e3 | e3
   ·exact e3
   ·rw[Zq0 e5 e3] at e4;cases e4
  have:r.1=c:=Prod.ext el e1;rw[this];exact ⟨hc,hg,ho⟩
theorem ZmH {N:Nat} {l:Lg} {c:Con} (hs:SmL l) (hb:ledB l=true) (hc:SmCon c) (h:RepC N (newCon l).1 c) (hN:4194304≤N):Q45 N l c.2=some ((c.2.2.2,true),()):=by
 obtain ⟨h1,_,h3⟩:=h;have hv:logB c.2=true:=by
  simp only[conB,Xh] at h1;exact h1.2
 have e:=Zkf hv;obtain ⟨r,i1,_,i3⟩:=Zhj (N:=N) hs (log:=c.2) hc.2.1 hc.2.2 hN;rw[i1,i3 hb hv (by rw[e];exact h3),e,(Zgn.1 hv).ct]
theorem ZkV {N:Nat} {f:Con} {text:Xo} (hs:SmL f.1) (hb:ledB f.1=true) (hz:text.size≤4000) (hN:4194304≤N) (b:List Xo×Bool) (e:b.1=wsOf 10 text):laws_FnReplay_L1 N N 0 f (newCon f.1).1 b=some (true,()):=by
 have hsz:=fun i=>Zqp 10 text i
 have hl:=Zi0 10 text;generalize wsOf 10 text=ws at hsz hl e;have h0:RepC N (newCon f.1).1 (newCon f.1).1:=by
  have en:(newCon f.1).1=(f.1,noLog):=by unfold newCon;rw[hb];rfl
  rw[en];have er:rdR 60 0 (bts noLog.1++bts noLog.2.1)=[]:=(ZnX 60 0).1;unfold RepC;rw[er];exact ⟨by simp only[conB,hb,Zpg,Bool.and_true],rfl,fun i hi=>by simp at hi⟩
 have hsm:=ZlW (N:=N) (lines:=ws) (Ze5 hs) (fun i=>by have:=hsz i;omega) hN
 have hex:=fun i=>ZmC (hsm i) (show (gd ws i ⟨#[]⟩).size<4194304 by have:=hsz i;omega) hN
 have hrep:∀i,RepC N (newCon f.1).1 (goC N ws (newCon f.1).1 i):=fun i=>by
  induction i with
  | zero=>exact h0
  | succ i ih=>exact Zpm ih (hex i).2.2.2.2 rfl
 refine laws_FnReplay_L1_run N (fun i=>(i:Int)) (fun _=>f) (goC N ws (newCon f.1).1) (fun _=>b) ws.length (fun i hi kx=> ?_) (fun kx=> ?_) N (by omega)
 ·simp only[laws_FnReplay_B1,ilt_eq,len_eq,e,Xk,hi,Xf,Xd,Zb hi,chk_true',Xj,(hex i).1,Xa,goC,Zc (show i<4611686018427387904 by omega)]
 ·simp only[laws_FnReplay_B1,laws_FnReplay_K1,ilt_eq,len_eq,e,Xn,Xg,Xe,ZmH hs hb (hsm ws.length) (hrep ws.length) hN,Xa,Xd,ieq_eq,Xf]
theorem Zii {N:Nat} {k:Nat} {cu:Cu} {v1 l:Lg} {v2:Lo} {x:Con} (hl:SmL l) (hx:SmCon x) (hN:4194304≤N) (h:Bud cu (k+102)):∃log,Q96_K1 N v1 v2 cu l x=some ((l,log),())∧log.1.size<4194304∧log.2.1.size<4194304:=by
 obtain ⟨b,c1,e1,b1⟩:=Zg0 (N:=N) (k:=k+100) 8 h;obtain ⟨g,c2,e2,_,g2⟩:=Zn0 (N:=N) (k:=k) hN b1;have hsz:lsz g=g.1.size+g.2.1.size:=rfl;simp only[Q96_K1,e1,Xa,e2];cases b with
 | true=>exact ⟨g,rfl,by omega,by omega⟩
 | false=>exact ⟨x.2,rfl,hx.2.1,hx.2.2⟩
theorem Zij {N:Nat} {k:Nat} {cu:Cu} {v1 l:Lg} {v2:Lo} {x:Con} (hl:SmL l) (hx:SmCon x) (hN:4194304≤N) (h:Bud cu (k+112)):∃log,Q96_K2 N v1 v2 cu l x=some ((l,log),())∧log.1.size<4194304∧log.2.1.size<4194304:=by
 obtain ⟨b,c1,e1,b1⟩:=Zg0 (N:=N) (k:=k+110) 4 h;obtain ⟨e,c2,e2,b2,s1,s2⟩:=ZfJ (N:=N) (k:=k+102) b1;have ea:=Zao (N:=N) (l:=x.2) (e:=e) hx.2.1 hx.2.2 (by omega) (by omega) hN;simp only[Q96_K2,e1,Xa,e2,ea];cases b with
 | true=>exact Zii (N:=N) (k:=k) (v1:=v1) (v2:=v2) hl (x:=(x.1,(appT x.2 e).1)) ⟨hx.1,Zoo hx.2.1 hx.2.2 _⟩ hN b2
 | false=>exact Zii (N:=N) (k:=k) (v1:=v1) (v2:=v2) hl hx hN (b1.mono (by omega))
theorem ZfO {N:Nat} {v1 l:Lg} {v2:Lo} {ok:Bool} (hl:SmL l) (hN:4194304≤N):∀(d k:Nat) (cu:Cu) (x:Con),d≤100→SmCon x→Bud cu (k+112+14*d)→∃log,(∀m,d<m→Q96_L1 N m ok d v1 v2 cu l x=some ((l,log),()))∧log.1.size<4194304∧log.2.1.size<4194304
 | 0,k,cu,x,_,hx,h=>by
  obtain ⟨log,e,s⟩:=Zij (N:=N) (k:=k) (v1:=v1) (v2:=v2) hl hx hN (h.mono (by omega));refine ⟨log,fun m hm=> ?_,s⟩;obtain ⟨m',rfl⟩:∃m',m=m'+1:=⟨m - 1,by omega⟩
  rw[Q96_L1_succ];simp only[Q96_B1,ilt_eq,show decide ((0:Int)<((0:Nat):Int))=false by decide,Xe,e]
 | d+1,k,cu,x,hd,hx,h=>by
  have hd1:isub .i64 ((d+1:Nat):Int) 1=(d:Int):=by rw[Zv (by omega) (by omega)];omega
  have hpos:decide ((0:Int)<((d+1:Nat):Int))=true:=Xc (by omega);cases ok with
  | false=>
   obtain ⟨log,e,s⟩:=Zij (N:=N) (k:=k) (v1:=v1) (v2:=v2) hl hx hN (h.mono (by omega));refine ⟨log,fun m hm=> ?_,s⟩;obtain ⟨m',rfl⟩:∃m',m=m'+1:=⟨m - 1,by omega⟩
   rw[Q96_L1_succ];simp only[Q96_B1,ilt_eq,hpos,Xd,Xe,e]
  | true=>
   obtain ⟨s,c1,e1,b1,s1⟩:=Ze6 (N:=N) (k:=k+112+14*d) hN (h.mono (by omega));obtain ⟨_,x2,x3,_,_⟩:=ZmC hx (s:=s) (by omega) hN;obtain ⟨log,e,b⟩:=ZfO (v1:=v1) (v2:=v2) (ok:=true) hl hN d k c1 (exC N x s).1 (by omega) x3 b1;refine ⟨log,fun m hm=> ?_,b⟩;obtain ⟨m',rfl⟩:∃m',m=m'+1:=⟨m - 1,by omega⟩
   rw[Q96_L1_succ];simp only[Q96_B1,ilt_eq,hpos,Xd,e1,Xa,x2,hd1];exact e m' (by omega)
theorem Zi7 {N:Nat} {code:List Int} (h:Bud (code,(0,0)) 3000) (hN:4194304≤N):∃l log,Q96 N code=some ((l,log),())∧SmL l∧log.1.size<4194304∧log.2.1.size<4194304:=by
 obtain ⟨l,c1,e1,b1,s1⟩:=Zj4 (N:=N) (k:=500) hN (h.mono (by omega));obtain ⟨r,c2,e2,b2,v1,v2⟩:=ZG (N:=N) (k:=498) 7 b1;obtain ⟨d,rfl⟩:∃d:Nat,r=d:=⟨r.toNat,by omega⟩
 obtain ⟨log,e4,s4⟩:=ZfO (N:=N) (v1:=(([],([],([],[]))),([],0))) (v2:=((⟨#[]⟩:Xo),((⟨#[]⟩:Xo),0))) (ok:=(newCon l).2) s1 hN d 0 c2 (newCon l).1 (by omega) (Ze5 s1) (b2.mono (by omega));exact ⟨l,log,by simp only[Q96,e1,e2,Za2 s1 hN,Xa,e4 N (by omega)],s1,s4⟩
theorem laws_FnReplay_law (code:List Int) (h:RngB code):∃N,laws_FnReplay N code=some (true,()):=by
 refine ⟨4194304, ?_⟩;have hN:=Xl 4194304;simp only[laws_FnReplay,Q71,ilt_eq,len_eq,Xa];by_cases hl:(65536:Int)<code.length
 ·simp [hl]
 have hl':code.length≤65536:=by omega
 obtain ⟨l,log,e1,s1,s2,s3⟩:=Zi7 (N:=4194304) (ZoT h hl' 3000 (by omega)) hN;obtain ⟨r,i1,i2,_⟩:=Zhj s1 (log:=log) s2 s3 hN;obtain ⟨codeA,a1,a2,a3⟩:=Zqg (N:=4194304) (code:=code) 1 (by omega) (by omega) h hl';obtain ⟨f,t,d1,d2,d3⟩:=Zi6 (N:=4194304) (code:=codeA) (ZqS a2 a3 4000 (by omega)) hN;have hn2:(newCon f.1).2=ledB f.1:=by unfold newCon;cases ledB f.1<;>rfl
 simp only[show (1:Int)=((1:Nat):Int) from rfl] at*;simp only[hl,Xg,Xe,e1,i1,i2,Xa,Zqs,Bool.not_true,ine_eq,Xf,a1,d1,Zcc d2.1 hN,Q49,ilt_eq,slen,hn2];by_cases h4:t.size≤4000
 ·have h1:=ZlT (N:=4194304) (s:=t) (c:=10) (by omega)
  simp only[Xb (show ¬(4000:Int)<t.size by omega),Xe,show (⟨#[10]⟩:Xo)=txt [10] from rfl,show (((txt [10]).size:Nat):Int)=((1:Nat):Int) from rfl,Xf,Bool.not_true,h1,Xa];cases hb:ledB f.1 with
  | false=>rfl
  | true=>exact ZkV d2.1 hb h4 hN _ rfl
 ·simp only[Xc (show (4000:Int)<t.size by omega),Xd,Xa]
  cases ledB f.1<;>rfl
end Go.Rx.Px
