/- This text proves, of the plain functions behind FnConsole, that the law answers true (part 3 of 3); no condition beyond the ranges that its arguments have. -/
import Derived.Test.YtndchhdnmnfnlaaGreatDoorThBFnConsole
set_option linter.unusedVariables false
set_option linter.unusedSimpArgs false
namespace Go.Rx.Px
theorem Zfx {N:Nat} {cu:Cu} {k:Nat} (hN:4194304≤N) (h:Bud cu (k+2000)):∃c c',Q82 N cu=some (c,c')∧Bud c' k∧SmCon c:=by
 obtain ⟨l,c1,e1,b1,s1⟩:=ZjZ (N:=N) (k:=k+500) hN h;obtain ⟨r,c2,e2,b2,v1,v2⟩:=ZS (N:=N) (k:=k+498) 6 b1;obtain ⟨d,rfl⟩:∃d:Nat,r=d:=⟨r.toNat,by omega⟩
 obtain ⟨out,c',e4,b4,s4⟩:=Zl1 (N:=N) (v:=((([],([],([],[]))),([],0)),((⟨#[]⟩:Xo),((⟨#[]⟩:Xo),0)))) (ok:=(newCon l).2) hN d k c2 (newCon l).1 (by omega) (Zka s1) (ZmC l) (b2.mono (by omega));exact ⟨out,c',by simp only[Q82,e1,e2,Zb8 s1 hN,Xa,e4 N (by omega)],b4,s4⟩
theorem Zhx {N:Nat} {code:List Int} (h:Bud (code,(0,0)) 2000) (hN:4194304≤N):∃c,Q100 N code=some (c,())∧SmCon c:=by
 obtain ⟨c,c',e,_,s⟩:=Zfx (N:=N) (k:=0) hN (h.mono (by omega));exact ⟨c,by simp only[Q100,e,Xa],s⟩
theorem Zhy {N:Nat} {code:List Int} (h:Bud (code,(0,0)) 3000) (hN:4194304≤N):∃c s,Q98 N code=some ((c,s),())∧SmCon c∧s.size≤400:=by
 obtain ⟨c,c1,e,b,s⟩:=Zfx (N:=N) (k:=14) hN (h.mono (by omega));obtain ⟨t,c2,e2,_,s2⟩:=Ze3 (N:=N) (k:=0) hN b;exact ⟨c,t,by simp only[Q98,e,e2,Xa],s,s2⟩
theorem Zhh {N:Nat} {v x:Con} (hN:4194304≤N):∀(d k:Nat) (cu:Cu) (s:Xo),d≤100→s.size+500*d≤100000→Bud cu (k+14*d)→∃out,(∀m,d<m→Q102_L1 N m s d v cu x=some ((x,out),()))∧out.size≤s.size+500*d
 | 0,k,cu,s,_,_,h=>by
  refine ⟨s,fun m hm=> ?_,by omega⟩;obtain ⟨m',rfl⟩:∃m',m=m'+1:=⟨m - 1,by omega⟩
  rw[Q102_L1_succ];simp only[Q102_B1,Q102_K1,ilt_eq,show decide ((0:Int)<((0:Nat):Int))=false by decide,Xe]
 | d+1,k,cu,s,hd,hs,h=>by
  have sc:∀x y:Xo,(scat x y).size=x.size+y.size:=fun x y=>by rw[Zd,Zgg,Xm];rfl
  have hd1:isub .i64 ((d+1:Nat):Int) 1=(d:Int):=by rw[Zw (by omega) (by omega)];omega
  obtain ⟨t,c1,e1,b1,s1⟩:=Ze3 (N:=N) (k:=k+14*d) hN (h.mono (by omega));have z1:(scat s (⟨#[10]⟩:Xo)).size=s.size+1:=sc _ _;have z2:(scat (scat s (⟨#[10]⟩:Xo)) t).size=s.size+1+t.size:=by rw[sc,z1]
  obtain ⟨out,e,b⟩:=Zhh (v:=v) (x:=x) hN d k c1 (scat (scat s (⟨#[10]⟩:Xo)) t) (by omega) (by omega) b1;refine ⟨out,fun m hm=> ?_,by omega⟩;obtain ⟨m',rfl⟩:∃m',m=m'+1:=⟨m - 1,by omega⟩
  rw[Q102_L1_succ];simp only[Q102_B1,ilt_eq,Xc (show (0:Int)<((d+1:Nat):Int) by omega),Xd,Zf (ZA (x:=s) (y:=⟨#[10]⟩) (by have:(⟨#[10]⟩:Xo).size=1:=rfl;omega)),e1,Xa,Zf (ZA (x:=scat s (⟨#[10]⟩:Xo)) (y:=t) (by omega)),hd1]
  exact e m' (by omega)
theorem Zi4 {N:Nat} {code:List Int} (h:Bud (code,(0,0)) 4000) (hN:4194304≤N):∃c s,Q102 N code=some ((c,s),())∧SmCon c∧s.size<4194304:=by
 obtain ⟨c,c1,e,b,s⟩:=Zfx (N:=N) (k:=600) hN (h.mono (by omega));obtain ⟨t,c2,e2,b2,s2⟩:=Ze3 (N:=N) (k:=586) hN b;obtain ⟨r,c3,e3,b3,v1,v2⟩:=ZS (N:=N) (k:=584) 24 b2;have hq:iquo .i64 r 23=r / 23:=by
  show IntKind.i64.wrap (r.tdiv 23)=_;rw[Int.tdiv_eq_ediv_of_nonneg v1,Zcb (by omega) (by omega)]
 have hq2:iquo .i64 r 23=0∨iquo .i64 r 23=1:=by rw[hq];omega
 have key:∀q:Int,q=0∨q=1→∃w c4,Q80 N c3 (List.take ((iadd .i64 8 q).toNat - 0) (List.drop 0 [0,1,2,3,4,5,6,7,30]))=some (w,c4)∧Bud c4 582∧0≤w∧w≤30∧cutB 0 (iadd .i64 8 q) 9=true:=fun q hq=>by
  rcases hq with rfl | rfl
  ·obtain ⟨w,c4,e4,b4,w1,w2⟩:=ZX (N:=N) (k:=582) (list:=List.take ((iadd .i64 8 0).toNat - 0) (List.drop 0 [0,1,2,3,4,5,6,7,30])) 0 30 (by decide) (by decide) b3
   exact ⟨w,c4,e4,b4,w1,w2,by decide⟩
  ·obtain ⟨w,c4,e4,b4,w1,w2⟩:=ZX (N:=N) (k:=582) (list:=List.take ((iadd .i64 8 1).toNat - 0) (List.drop 0 [0,1,2,3,4,5,6,7,30])) 0 30 (by decide) (by decide) b3
   exact ⟨w,c4,e4,b4,w1,w2,by decide⟩
 obtain ⟨w,c4,e4,b4,w1,w2,hcut⟩:=key _ hq2;obtain ⟨d,rfl⟩:∃d:Nat,w=d:=⟨w.toNat,by omega⟩
 obtain ⟨out,o1,o2⟩:=Zhh (N:=N) (v:=((([],([],([],[]))),([],0)),((⟨#[]⟩:Xo),((⟨#[]⟩:Xo),0)))) (x:=c) hN d 0 c4 t (by omega) (by omega) (b4.mono (by omega));refine ⟨c,out, ?_,s,by omega⟩;simp only[Q102,e,e2,e3,Xa,show ine 23 0=true by decide,chk_true',hcut,e4];exact o1 N (by omega)
theorem ZkV {N:Nat} {a:List Xo} (ha:a.length<4194304) (hN:4194304≤N):Q77 N a a=some (true,()):=by
 simp only[Q77,ine_eq,Xf,Bool.not_true,Xe];refine Q77_L1_run N (fun _=>a) (fun _=>a) (fun i=>(i:Int)) a.length (fun i hi kx=> ?_) (fun kx=> ?_) N (by omega)
 ·simp only[Q77_B1,ilt_eq,len_eq,Xk,hi,Xf,Xd,Zb hi,chk_true',Zly,Bool.not_true,Xe,Zc (show i<4611686018427387904 by omega)]
 ·simp only[Q77_B1,Q77_K1,ilt_eq,len_eq,Xn,Xg,Xe]
theorem Zkc {N:Nat} {c:Con} (h:SmCon c) (hN:4194304≤N):Q73 N c c=some (true,()):=by
 simp only[Q73,laws_vLedger_refl h.1 hN,Xa,Xd,Zly,ieq_eq,Xf,Bool.and_true]
theorem Zok (b:Bool):Go.Rx.beq b b=true:=by cases b<;>rfl
theorem ZmD {c:Con} {s:Xo} {r:Con×Xo} (h:Did c s r) (hc:conB c=true):r.1=c∨(conB r.1=true∧rdR 60 0 (bts r.1.2.1++bts r.1.2.2.1)=rdR 60 0 (bts c.2.1++bts c.2.2.1)++[(s,r.2)]∧r.1.2.2.2=c.2.2.2+1∧(r.1.1=c.1∨RepP r.2))∨(r.1.2=c.2∧conB r.1=true∧(r.1.1=c.1∨RepP r.2)∧recB (s,r.2)=false∧cmdB s=true):=by
 rcases h with h | ⟨_,hm,hk,hl,hb,hf⟩
 ·exact .inl h
 have hv:logB c.2=true:=by
  simp only[conB,Xh] at hc;exact hc.2
 cases hr:recB (s,r.2) with
 | true=>
  obtain ⟨f1,f2,_⟩:=ZeX hv hr hk;have e:(appT c.2 (s,r.2)).1=(c.2.1,txt (bts c.2.2.1++lineOf c.2.2.2 (s,r.2)),c.2.2.2+1):=by
   unfold appT;rw[if_pos ⟨hv,hr⟩,if_neg hk]
  rw[e] at hl;refine .inr (.inl ⟨?_, ?_, ?_,hf⟩)
  ·simp only[conB,hb,hl,Bool.true_and];exact Zgl.2 f1
  ·rw[hl];exact f2
  ·rw[hl]
 | false=>
  have e:(appT c.2 (s,r.2)).1=c.2:=by
   unfold appT;rw[if_neg (by rw[hr];simp)]
  rw[e] at hl;exact .inr (.inr ⟨hl,by simp only[conB,hb,hl,hv,Bool.and_true],hf,rfl,hm⟩)
theorem Zq8 {r:Xo} (h:RepP r):r≠⟨#[63]⟩:=fun e=>by
 have:=h.2 63 (by rw[e];exact List.mem_singleton.2 rfl)
 simp at this
theorem Zkd {N:Nat} {c:Con} {text:Xo} (h:SmCon c) (hz:text.size≤4000) (hN:4194304≤N) (b1 b2:List Xo×Bool) (e1:b1.1=outC N (wsOf 10 text) c (wsOf 10 text).length) (e2:b2.1=wsOf 10 text):laws_FnConsole_L1 N N 0 c b1 b2=some (true,()):=by
 have hsz:=fun i=>ZkU 10 text i
 have hl:=ZiY 10 text;generalize wsOf 10 text=ws at hsz hl e1 e2;refine laws_FnConsole_L1_run N (fun i=>(i:Int)) (goC N ws c) (fun _=>b1) (fun _=>b2) ws.length (fun i hi kx=> ?_) (fun kx=> ?_) N (by omega)
 ·have hg:=ZmB (Zl0 (lines:=ws) h (fun i=>by have:=hsz i;omega) hN i) (show (gd ws i ⟨#[]⟩).size<4194304 by have:=hsz i;omega) hN
  have eo:gd (outC N ws c ws.length) i ⟨#[]⟩=(exC N (goC N ws c i) (gd ws i ⟨#[]⟩)).2:=ZaQ _ _ hi;simp only[laws_FnConsole_B1,ilt_eq,len_eq,e1,e2,Xk,hi,Xf,Xd,Zb hi,chk_true',Xj,hg.1,Xa,Zb (show i<(outC N ws c ws.length).length by rw[Ze2];exact hi),eo,Zd0,Bool.not_true,Xe,goC,Zc (show i<4611686018427387904 by omega)]
 ·simp only[laws_FnConsole_B1,laws_FnConsole_K1,ilt_eq,len_eq,e1,e2,Xn,Xg,Xe,ieq_eq,Ze2,Xf]
theorem Zih {N:Nat} {code:List Int} (hr:RngB code) (hl:code.length≤65536) (hN:4194304≤N):laws_FnConsole_K2 N code=some (true,()):=by
 obtain ⟨code3,c1,c2,c3⟩:=ZkP (N:=N) (code:=code) 3 (by omega) (by omega) hr hl;obtain ⟨c,s,d1,d2,d3⟩:=Zi4 (N:=N) (code:=code3) (ZnU c2 c3 4000 (by omega)) hN;have hlen:=Zpc (N:=N) (c:=c) (text:=s);simp only[laws_FnConsole_K2,show (3:Int)=((3:Nat):Int) from rfl,c1,d1,Xa,Zfv d2 d3 hN,Zfw d2 d3 hN,Zok,Bool.not_true,Xe,ZkV (N:=N) (a:=(runP N c s).1) (by omega) hN];cases hb:conB c && (decide (s.size≤4000) && decide ((wsOf 10 s).length≤30)) with
 | false=>
  have e:(runP N c s).2=false:=by unfold runP;rw[hb];rfl
  rw[e];rfl
 | true=>
  have e:runP N c s=(outC N (wsOf 10 s) c (wsOf 10 s).length,true):=by unfold runP;rw[hb];rfl
  simp only[Xh,Xi] at hb;have eS:Q49 N s ⟨#[10]⟩=some ((wsOf 10 s,true),()):=by
   have h1:=ZlW (N:=N) (s:=s) (c:=10) (by omega);simp only[Q49,ilt_eq,slen,Xb (show ¬(4000:Int)<s.size by omega),Xe,ine_eq,show (⟨#[10]⟩:Xo)=txt [10] from rfl,show (((txt [10]).size:Nat):Int)=1 from rfl,Xf,Bool.not_true,h1,Xa]
  simp only[e,Bool.not_true,Xe,eS,Xa];exact Zkd d2 hb.2.1 hN _ _ rfl rfl
theorem ZmE {N:Nat} {code:List Int} (hr:RngB code) (hl:code.length≤65536) {c:Con} {s:Xo} {r:Con×Xo} (h:SmCon r.1) (hc:conB c=true) (hd:Did c s r) (hN:4194304≤N):laws_FnConsole_K3 N code s r.2 (ieq r.1.2.2.2 (iadd .i64 c.2.2.2 1)) c r.1=some (true,()):=by
 have hv:logB c.2=true:=by
  simp only[conB,Xh] at hc;exact hc.2
 have hP:=Zgl.1 hv;have hct:=hP.ct;have hle:=Zg9 60 0 (bts c.2.1++bts c.2.2.1);have i1:iadd .i64 c.2.2.2 1=c.2.2.2+1:=Zh (by omega) (by omega);have k2:=Zih hr hl hN;simp only[laws_FnConsole_K3,ieq_eq,i1];rcases ZmD hd hc with e | ⟨e1,e2,e3,e4⟩ | ⟨e1,_⟩
 ·rw[e,Xb (show ¬c.2.2.2=c.2.2.2+1 by omega)]
  exact k2
 ·rw[e3,Xc rfl]
  have hv':logB r.1.2=true:=by
   simp only[conB,Xh] at e1;exact e1.2
  have hrec:recsT r.1.2=(rdR 60 0 (bts c.2.1++bts c.2.2.1)++[(s,r.2)],true):=by rw[Zoi hv',e2]
  simp only[Xd,ZeW h.2.1 h.2.2 hN,hrec,Zoh h hN,e1,Xa,Bool.not_true,Xe,len_eq,Xm,List.length_singleton];generalize rdR 60 0 (bts c.2.1++bts c.2.2.1)=R at hle ⊢;have i2:isub .i64 ((R.length+1:Nat):Int) 1=(R.length:Int):=by rw[Zw (by omega) (by omega)];omega
  have g:gd (R++[(s,r.2)]) R.length noR=(s,r.2):=by simp [gd]
  rw[i2,Zf (Zb (by omega)),Xj,g,Zd0,Zd0];simp only[Bool.and_true,Bool.not_true,Xe];cases hq:Go.Rx.seq r.2 (⟨#[63]⟩:Xo) with
  | false=>exact k2
  | true=>
   rw[Zbu,Xi] at hq;have el:r.1.1=c.1:=by
    rcases e4 with e4 | e4
    ·exact e4
    ·exact absurd hq (Zq8 e4)
   have hsc:SmL c.1:=by rw[←el];exact h.1
   rw[el];simp only[Xd,laws_vLedger_refl hsc hN,Xa,Bool.not_true,Xe];exact k2
 ·rw[e1,Xb (show ¬c.2.2.2=c.2.2.2+1 by omega)]
  exact k2
theorem ZkW {N:Nat} {code:List Int} (hr:RngB code) (hl:code.length≤65536) {s r:Xo} {c d:Con} (hN:4194304≤N):laws_FnConsole_K3 N code s r false c d=some (true,()):=by
 simp only[laws_FnConsole_K3,Xe,Zih hr hl hN]
theorem laws_FnConsole_law (code:List Int) (h:RngB code):∃N,laws_FnConsole N code=some (true,()):=by
 refine ⟨4194304, ?_⟩;have hN:=Xl 4194304;simp only[laws_FnConsole,Q71,ilt_eq,len_eq,Xa];by_cases hl:(65536:Int)<code.length
 ·simp [hl]
 have hl':code.length≤65536:=by omega
 obtain ⟨l,e1,s1⟩:=ZdO (N:=4194304) (ZoM h hl' 2000 (by omega)) hN;obtain ⟨codeA,a1,a2,a3⟩:=ZkP (N:=4194304) (code:=code) 1 (by omega) (by omega) h hl';obtain ⟨x,x1,x2⟩:=Zhx (N:=4194304) (code:=codeA) (ZnU a2 a3 2000 (by omega)) hN;obtain ⟨codeB,b1,b2,b3⟩:=ZkP (N:=4194304) (code:=code) 2 (by omega) (by omega) h hl';obtain ⟨c,s,y1,y2,y3⟩:=Zhy (N:=4194304) (code:=codeB) (ZnU b2 b3 3000 (by omega)) hN;obtain ⟨g1,g2,g3,_,g5⟩:=ZmB y2 (s:=s) (by omega) hN;simp only[show (1:Int)=((1:Nat):Int) from rfl,show (2:Int)=((2:Nat):Int) from rfl] at*;simp only[hl,Xg,Xe,Q101,e1,Xa,ZeP s1 hN,Zb8 s1 hN,a1,x1,b1,y1,g1,g2,Zok,Bool.not_true,Zkc (Zka s1) hN,Zoh x2 hN,Zqj x2 hN,Zd0,Zkc g3 hN,Zoh y2 hN];cases hc:conB c with
 | true=>exact ZmE h hl' g3 hc g5 hN
 | false=>exact ZkW (s:=s) (r:=(exC 4194304 c s).2) (c:=c) (d:=(exC 4194304 c s).1) h hl' hN
end Go.Rx.Px
