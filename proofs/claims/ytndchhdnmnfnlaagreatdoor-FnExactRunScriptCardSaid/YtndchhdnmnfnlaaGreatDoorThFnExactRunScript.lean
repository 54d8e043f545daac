/- This text proves, of the plain functions behind FnExactRunScript, that the law answers true (part 2 of 2); no condition beyond the ranges that its arguments have. -/
import Derived.Test.YtndchhdnmnfnlaaGreatDoorThAFnExactRunScript
set_option linter.unusedVariables false
set_option linter.unusedSimpArgs false
namespace Go.Rx.Px
theorem ZcM {N:Nat} {s:ByteArray} (hs:s.size<4194304) (hN:4194304≤N):Q54 N s=some (((csN (bts s):Nat):Int),()):=by
 simp only[Q54]
 refine (Q54_L1_run N (fun _=>s) (fun i=>((csN ((bts s).take i):Nat):Int)) (fun _=>slen s) (fun i=>(i:Int)) s.size (fun i hi kx=> ?_) (fun kx=> ?_) N (by omega))
 ·simp only[Q54_B1,slen,ilt_eq,Int.ofNat_lt,hi,decide_true,cond_true,Zb hi,chk_true',show ine 999979 0=true from rfl,Zm0 hi,Zc (show i<4611686018427387904 by omega)]
 ·simp only[Q54_B1,Q54_K1,slen,ilt_eq,Int.lt_irrefl,decide_false,cond_false,Ze,List.take_length]
theorem Ziv {d:Nat} (h:d<10):scut (⟨#[48,49,50,51,52,53,54,55,56,57]⟩:ByteArray) (d:Int) (((d+1:Nat)):Int)=txt [UInt8.ofNat (48+d)]:=by
 refine Ze6 ?_
 rw[Zld]
 have:d=0∨d=1∨d=2∨d=3∨d=4∨d=5∨d=6∨d=7∨d=8∨d=9:=by omega
 rcases this with rfl | rfl | rfl | rfl | rfl | rfl | rfl | rfl | rfl | rfl<;>rfl
theorem ZgJ (u:Nat):∀d:Nat,u<10 ^ (d+1)→(Lib.decDigits u).length≤d+1:=by
 intro d
 induction d generalizing u with
 | zero=>intro h;rw[Lib.decDigits_one (by omega)];simp
 | succ d ih=>
  intro h
  rw[Lib.decDigits]
  by_cases c:u<10
  ·rw[dif_pos c];simp
  ·rw[dif_neg c,List.length_append]
   have:=ih (u / 10) (by rw[Nat.pow_succ] at h;omega)
   simp;omega
theorem Zm1 (N:Nat):∀(d u m:Nat),u<10 ^ (d+1)→d≤17→d+1≤m→Q139_R N m (u:Int)=some (txt (Lib.decDigits u),()):=by
 intro d
 induction d with
 | zero=>
  intro u m h _ hm
  obtain ⟨q,rfl⟩:∃q,m=q+1:=⟨m - 1,by omega⟩
  have hu:u<10:=by omega
  rw[Q139_R_succ]
  simp only[Q139_F,ilt_eq,decide_eq_false (show ¬(u:Int)<0 by omega),decide_eq_true (show (u:Int)<10 by omega),cond_false,cond_true,Zc (show u<4611686018427387904 by omega)]
  rw[ZM (by omega) (by omega) (by show ((u+1:Nat):Int)≤((10:Nat):Int);omega),chk_true',Ziv hu,Lib.decDigits_one hu]
 | succ d ih=>
  intro u m h hd hm
  obtain ⟨q,rfl⟩:∃q,m=q+1:=⟨m - 1,by omega⟩
  by_cases hu:u<10
  ·rw[Q139_R_succ]
   simp only[Q139_F,ilt_eq,decide_eq_false (show ¬(u:Int)<0 by omega),decide_eq_true (show (u:Int)<10 by omega),cond_false,cond_true,Zc (show u<4611686018427387904 by omega)]
   rw[ZM (by omega) (by omega) (by show ((u+1:Nat):Int)≤((10:Nat):Int);omega),chk_true',Ziv hu,Lib.decDigits_one hu]
  ·have hb:(10:Nat) ^ (d+1+1)≤10 ^ 19:=Nat.pow_le_pow_right (by omega) (by omega)
   have hb2:(10:Nat) ^ 19=10000000000000000000:=by decide
   have hdl:=ZgJ (u / 10) d (by rw[Nat.pow_succ] at h;omega)
   have hq:iquo .i64 (u:Int) 10=((u / 10:Nat):Int):=by
    simp only[iquo]
    rw[Int.tdiv_eq_ediv_of_nonneg (by omega),Zc6 (by omega) (by omega)]
    omega
   have hr:irem (u:Int) 10=((u % 10:Nat):Int):=by
    simp only[irem]
    rw[Int.tmod_eq_emod_of_nonneg (by omega)]
    omega
   have h10:u % 10<10:=Nat.mod_lt _ (by omega)
   rw[Q139_R_succ]
   simp only[Q139_F,ilt_eq,decide_eq_false (show ¬(u:Int)<0 by omega),decide_eq_false (show ¬(u:Int)<10 by omega),cond_false,show ine 10 0=true from rfl,chk_true',hq,ih (u / 10) q (by rw[Nat.pow_succ] at h;omega) (by omega) (by omega),Option.bind_some,hr,Zc (show u % 10<4611686018427387904 by omega)]
   rw[ZM (by omega) (by omega) (by show ((u % 10+1:Nat):Int)≤((10:Nat):Int);omega),chk_true',Ziv h10]
   rw[ZJ (by rw[Ze,Ze,Zg,Zg];simp;omega),chk_true',Zap]
   conv=>rhs;rw[Lib.decDigits,dif_neg hu]
def numT (n:Int):List UInt8:=Lib.itoa n
theorem ZcF (u:Nat):numT (u:Int)=Lib.decDigits u:=Lib.itoa_nonneg u
theorem Zy {N:Nat} {n:Int} (h1: -1000000000000000000<n) (h2:n<1000000000000000000) (hN:4194304≤N):Q139 N n=some (txt (numT n),()):=by
 simp only[Q139]
 by_cases hn:n<0
 ·obtain ⟨u,rfl⟩:∃u:Nat,n= -(u:Int):=⟨n.natAbs,by omega⟩
  obtain ⟨q,rfl⟩:∃q,N=q+1:=⟨N - 1,by omega⟩
  have hdl:=ZgJ u 17 (by omega)
  rw[Q139_R_succ]
  simp only[Q139_F,ilt_eq,decide_eq_true hn,cond_true,Zx (show -9223372036854775808≤0 - -(u:Int) by omega) (by omega),show (0:Int) - -(u:Int)=(u:Int) by omega,Zm1 (q+1) 17 u q (by omega) (by omega) (by omega),Option.bind_some]
  rw[show (⟨#[45]⟩:ByteArray)=txt [45] from rfl,ZJ (by rw[Ze,Ze,Zg,Zg];simp;omega),chk_true',Zap]
  unfold numT
  rw[Lib.itoa_neg u (by omega)];rfl
 ·obtain ⟨u,rfl⟩:∃u:Nat,n=(u:Int):=⟨n.toNat,by omega⟩
  rw[Zm1 N 17 u N (by omega) (by omega) (by omega),ZcF]
theorem Zam {N:Nat} {n:Int} (h1: -1000000000000000000<n) (h2:n<1000000000000000000):strconv_Itoa N n=some (txt (numT n),()):=by
 simp only[strconv_Itoa,decide_eq_true (show -9223372036854775808≤n by omega),decide_eq_true (show n≤9223372036854775807 by omega),Bool.and_self,chk_true',numT]
 rfl
theorem ZgK (u:Nat):∀c∈Lib.decDigits u,48≤c.toNat∧c.toNat≤57:=by
 induction u using Nat.strongRecOn with
 | _ u ih=>
  intro c hc
  have key:∀d:Nat,d<10→(UInt8.ofNat (48+d)).toNat=48+d:=fun d hd=>by
   rw[UInt8.toNat_ofNat'];omega
  rw[Lib.decDigits] at hc
  by_cases hu:u<10
  ·rw[dif_pos hu,List.mem_singleton] at hc
   subst hc
   rw[key u hu];omega
  ·rw[dif_neg hu,List.mem_append,List.mem_singleton] at hc
   rcases hc with hc | rfl
   ·exact ih (u / 10) (by omega) c hc
   ·rw[key _ (Nat.mod_lt _ (by omega))];omega
def sealT (t:List UInt8):List UInt8:=t++[35]++numT (csN t)
def textT (k:Int) (a b:List UInt8):List UInt8:=numT k++[32]++a++[64]++b
def lineT (k:Int) (a b:List UInt8):List UInt8:=sealT (textT k a b)++[10]
theorem ZG {k:Int} (h0:0≤k) (h1:k<1000000):(numT k).length≤6:=by
 obtain ⟨u,rfl⟩:∃u:Nat,k=(u:Int):=⟨k.toNat,by omega⟩
 rw[ZcF];exact ZgJ u 5 (by omega)
theorem Zg1 {N:Nat} {t:List UInt8} (ht:t.length<4000000) (hN:4194304≤N):Q142 N (txt t)=some (txt (sealT t),()):=by
 have h1:=ZgI t
 have h2:=ZG (k:=(csN t:Nat)) (by omega) (by omega)
 have hsz:(txt t).size=t.length:=rfl
 simp only[Q142,show (⟨#[35]⟩:ByteArray)=txt [35] from rfl]
 rw[ZJ (by rw[Ze,Ze,Zg,Zg];simp;omega),chk_true',Ziu (by rw[hsz];omega) hN]
 simp only[Option.bind_some,Zg,Zy (n:=(csN t:Nat)) (by omega) (by omega) hN,Zap]
 rw[ZJ (by rw[Ze,Ze,Zg,Zg];simp;omega),chk_true']
 rfl
theorem Zde {N:Nat} {k:Int} {e:ByteArray×ByteArray} (h0:0≤k) (h1:k<1000000) (ha:e.1.size<1000000) (hb:e.2.size<1000000) (hN:4194304≤N):Q119 N k e=some (txt (lineT k (bts e.1) (bts e.2)),()):=by
 obtain ⟨a,b⟩:=e
 have h3:=ZG h0 h1
 have ha':(bts a).length<1000000:=ha
 have hb':(bts b).length<1000000:=hb
 have e1:a=txt (bts a):=rfl
 have e2:b=txt (bts b):=rfl
 simp only[Q119,Zy (n:=k) (by omega) (by omega) hN,Option.bind_some,show (⟨#[32]⟩:ByteArray)=txt [32] from rfl,show (⟨#[64]⟩:ByteArray)=txt [64] from rfl,show (⟨#[10]⟩:ByteArray)=txt [10] from rfl]
 rw[e1,e2]
 simp only[Zap,Zg]
 rw[ZJ (by rw[Ze,Ze,Zg,Zg];simp;omega),chk_true',ZJ (by rw[Ze,Ze,Zg,Zg];simp only[List.length_append,List.length_singleton];omega),chk_true',
  ZJ (by rw[Ze,Ze,Zg,Zg];simp only[List.length_append,List.length_singleton];omega),chk_true',ZJ (by rw[Ze,Ze,Zg,Zg];simp only[List.length_append,List.length_singleton];omega),chk_true']
 have h5:=ZgI (textT k (bts a) (bts b))
 have h4:=ZG (k:=(csN (textT k (bts a) (bts b)):Nat)) (by omega) (by omega)
 rw[show numT k++[32]++bts a++[64]++bts b=textT k (bts a) (bts b) from rfl,Zg1 (by simp only[textT,List.length_append,List.length_singleton];omega) hN]
 simp only[Option.bind_some,Zap]
 rw[ZJ (by rw[Ze,Ze,Zg,Zg];simp only[sealT,List.length_append,List.length_singleton];simp only[textT,List.length_append,List.length_singleton] at h4 ⊢;omega),chk_true']
 rfl
theorem Zfn (l:List UInt8) (c:UInt8):Lib.contains l [c]=decide (c∈l):=by
 unfold Lib.contains
 rw[Lib.index_one]
 induction l with
 | nil=>rfl
 | cons b l ih=>
  rw[decide_eq_decide] at ih ⊢
  have hge:=Lib.indexByte_ge l c
  simp only[Lib.indexByte,List.mem_cons]
  by_cases h:(b==c)=true
  ·rw[if_pos h]
   have:b=c:=by simpa using h
   subst this
   simp
  ·rw[if_neg h]
   have hne:¬c=b:=fun e=>h (by simp [e])
   by_cases h2:(Lib.indexByte l c== -1)=true
   ·rw[if_pos h2]
    have h3:Lib.indexByte l c= -1:=by simpa using h2
    simp only[hne,false_or,←ih,h3]
   ·rw[if_neg h2]
    have h3:Lib.indexByte l c≠ -1:=by simpa using h2
    simp only[hne,false_or,←ih]
    omega
theorem ZcR {N:Nat} {t:List UInt8} (ht:t.length≤3900) (hn:(35:UInt8)∉t) (hN:4194304≤N):Q3 N (txt t)=some ((txt (sealT t),true),()):=by
 have h1:=ZgI t
 have h2:=ZG (k:=(csN t:Nat)) (by omega) (by omega)
 have hsz:(txt t).size=t.length:=rfl
 simp only[Q3,slen,ilt_eq,hsz,decide_eq_false (show ¬(4000:Int)<(t.length:Int) by omega),cond_false,strings_Contains,shortB,decide_eq_true (show t.length<4294967281 by omega),chk_true',Option.bind_some,
  show (txt t).data.toList=t from rfl,show (⟨#[35]⟩:ByteArray)=txt [35] from rfl,show (txt [35]).data.toList=[35] from rfl,Zfn,decide_eq_false hn]
 rw[ZJ (by rw[Ze,Ze,Zg,Zg];simp;omega),chk_true',ZcM (by rw[hsz];omega) hN]
 simp only[Option.bind_some,Zg,Zam (n:=(csN t:Nat)) (by omega) (by omega),Zap]
 rw[ZJ (by rw[Ze,Ze,Zg,Zg];simp;omega),chk_true']
 have h3:(txt (t++[35]++numT (csN t:Nat))).size=t.length+1+(numT (csN t:Nat)).length:=by rw[Ze,Zg];simp only[List.length_append,List.length_singleton]
 rw[h3,decide_eq_false (by omega)]
 rfl
structure RecP (e:ByteArray×ByteArray):Prop where
 some:e.1≠⟨#[]⟩
 pl1:∀c∈bts e.1,32≤c.toNat∧c.toNat≤126∧c≠35∧c≠64
 n1:(bts e.1).length≤160
 pl2:∀c∈bts e.2,32≤c.toNat∧c.toNat≤126∧c≠35
 n2:(bts e.2).length≤200
theorem Zpd {s:ByteArray}:plB s=true↔∀c∈bts s,32≤c.toNat∧c.toNat≤126:=by
 rw[Zd1]
 constructor
 ·intro h c hc
  obtain ⟨i,hi,e⟩:=ZcE.1 (ZmZ.1 hc)
  have:=h i hi
  omega
 ·intro h i hi
  exact h _ (List.mem_of_getElem? (Ze7 s i hi))
theorem ZcG {e:ByteArray×ByteArray}:recB e=true↔RecP e:=by
 have hh:∀(s:ByteArray) (c:UInt8),hasB s c.toNat=false↔c∉bts s:=fun s c=>by rw[ZmZ];simp
 simp only[recB,Bool.and_eq_true,Bool.not_eq_true',decide_eq_true_eq,Zb6,decide_eq_false_iff_not,Zpd]
 rw[show hasB e.1 35=hasB e.1 (35:UInt8).toNat from rfl,show hasB e.1 64=hasB e.1 (64:UInt8).toNat from rfl,show hasB e.2 35=hasB e.2 (35:UInt8).toNat from rfl,hh,hh,hh]
 constructor
 ·rintro ⟨h1,h2,h3,h4,h5,h6,h7,h8⟩
  exact ⟨h1,fun c hc=>⟨(h2 c hc).1,(h2 c hc).2,fun e'=>h4 (e'▸hc),fun e'=>h5 (e'▸hc)⟩,by rw[Ze] at h3;omega,fun c hc=>⟨(h6 c hc).1,(h6 c hc).2,fun e'=>h8 (e'▸hc)⟩,by rw[Ze] at h7;omega⟩
 ·rintro ⟨h1,h2,h3,h4,h5⟩
  exact ⟨h1,fun c hc=>⟨(h2 c hc).1,(h2 c hc).2.1⟩,by rw[Ze];omega,fun hc=>(h2 35 hc).2.2.1 rfl,fun hc=>(h2 64 hc).2.2.2 rfl,fun c hc=>⟨(h4 c hc).1,(h4 c hc).2.1⟩,by rw[Ze];omega,fun hc=>(h4 35 hc).2.2 rfl⟩
theorem ZcH {k:Int} (h0:0≤k):∀c∈numT k,48≤c.toNat∧c.toNat≤57:=by
 obtain ⟨u,rfl⟩:∃u:Nat,k=(u:Int):=⟨k.toNat,by omega⟩
 rw[ZcF];exact ZgK u
theorem Zm2 {k:Int} {e:ByteArray×ByteArray} (h0:0≤k) (h:RecP e):(35:UInt8)∉textT k (bts e.1) (bts e.2):=by
 simp only[textT,List.mem_append,List.mem_singleton]
 rintro ((((hc | hc) | hc) | hc) | hc)
 ·have:=(ZcH h0 _ hc).1;simp at this
 ·cases hc
 ·exact (h.pl1 _ hc).2.2.1 rfl
 ·cases hc
 ·exact (h.pl2 _ hc).2.2 rfl
def encT (k:Int) (e:ByteArray×ByteArray):ByteArray×Bool:=if inRg 0 59 k=true∧recB e=true then (txt (lineT k (bts e.1) (bts e.2)),true) else (⟨#[]⟩,false)
theorem Zbr {N:Nat} {k:Int} {e:ByteArray×ByteArray} (h1:e.1.size<4194304) (h2:e.2.size<4194304) (hN:4194304≤N):Q25 N k e=some (encT k e,()):=by
 simp only[Q25,Zw,Option.bind_some,Zbi h1 h2 hN,encT]
 cases hk:inRg 0 59 k with
 | false=>rfl
 | true=>
  cases hb:recB e with
  | false=>rfl
  | true=>
   obtain ⟨a,b⟩:=e
   have hp:=ZcG.1 hb
   simp only[inRg,Bool.and_eq_true,decide_eq_true_eq] at hk
   have n1:(bts a).length≤160:=hp.n1
   have n2:(bts b).length≤200:=hp.n2
   have e1:a=txt (bts a):=rfl
   have e2:b=txt (bts b):=rfl
   have h3:=ZG (k:=k) (by omega) (by omega)
   have hno:(35:UInt8)∉textT k (bts a) (bts b):=Zm2 hk.1 hp
   simp only[Bool.not_true,cond_false,Zam (n:=k) (by omega) (by omega),Option.bind_some,show (⟨#[32]⟩:ByteArray)=txt [32] from rfl,show (⟨#[64]⟩:ByteArray)=txt [64] from rfl,show (⟨#[10]⟩:ByteArray)=txt [10] from rfl]
   rw[e1,e2]
   simp only[Zap,Zg]
   rw[ZJ (by rw[Ze,Ze,Zg,Zg];simp;omega),chk_true',ZJ (by rw[Ze,Ze,Zg,Zg];simp only[List.length_append,List.length_singleton];omega),chk_true',
    ZJ (by rw[Ze,Ze,Zg,Zg];simp only[List.length_append,List.length_singleton];omega),chk_true',ZJ (by rw[Ze,Ze,Zg,Zg];simp only[List.length_append,List.length_singleton];omega),chk_true']
   have h5:=ZgI (textT k (bts a) (bts b))
   have h4:=ZG (k:=(csN (textT k (bts a) (bts b)):Nat)) (by omega) (by omega)
   rw[show numT k++[32]++bts a++[64]++bts b=textT k (bts a) (bts b) from rfl,ZcR (by simp only[textT,List.length_append,List.length_singleton];omega) hno hN]
   simp only[Option.bind_some,Zap]
   rw[ZJ (by rw[Ze,Ze,Zg,Zg];simp only[sealT,List.length_append,List.length_singleton];simp only[textT,List.length_append,List.length_singleton] at h4 ⊢;omega),chk_true']
   simp [lineT]
def bef (c:UInt8) (l:List UInt8):List UInt8:=l.takeWhile fun b=>b !=c
def aft (c:UInt8) (l:List UInt8):List UInt8:=(l.dropWhile fun b=>b !=c).drop 1
theorem Zbw (c b:UInt8) (l:List UInt8):bef c (b::l)=if b=c then [] else b::bef c l:=by
 by_cases h:b=c
 ·subst h;simp [bef]
 ·simp [bef,h]
theorem ZfV (c b:UInt8) (l:List UInt8):aft c (b::l)=if b=c then l else aft c l:=by
 by_cases h:b=c
 ·subst h;simp [aft]
 ·simp [aft,h]
theorem Zkg (c:UInt8):∀l:List UInt8,c∉bef c l
 | []=>by simp [bef]
 | b::l=>by
  rw[Zbw]
  by_cases h:b=c
  ·rw[if_pos h];simp
  ·rw[if_neg h,List.mem_cons]
   rintro (e | e)
   ·exact h e.symm
   ·exact Zkg c l e
theorem ZgL {c:UInt8}:∀ {l:List UInt8},c∈l→l=bef c l++[c]++aft c l
 | [],h=>by cases h
 | b::l,h=>by
  rw[Zbw,ZfV]
  by_cases e:b=c
  ·subst e;simp
  ·rw[if_neg e,if_neg e]
   have h2:c∈l:=(List.mem_cons.1 h).resolve_left fun e2=>e e2.symm
   have:=ZgL h2
   simp only[List.cons_append,List.append_assoc] at this ⊢
   rw[←this]
theorem Ziw {c:UInt8}:∀ {l:List UInt8},c∉l→bef c l=l∧aft c l=[]
 | [],_=>⟨rfl,rfl⟩
 | b::l,h=>by
  rw[List.mem_cons,not_or] at h
  rw[Zbw,ZfV,if_neg (fun e=>h.1 e.symm),if_neg (fun e=>h.1 e.symm)]
  obtain ⟨h1,h2⟩:=Ziw h.2
  exact ⟨by rw[h1],h2⟩
theorem ZdM {c:UInt8}:∀ {t r:List UInt8},c∉t→bef c (t++[c]++r)=t∧aft c (t++[c]++r)=r
 | [],r,_=>by simp [Zbw,ZfV]
 | b::t,r,h=>by
  rw[List.mem_cons,not_or] at h
  simp only[List.cons_append]
  rw[Zbw,ZfV,if_neg (fun e=>h.1 e.symm),if_neg (fun e=>h.1 e.symm)]
  obtain ⟨h1,h2⟩:=ZdM (r:=r) h.2
  exact ⟨by rw[h1],h2⟩
theorem Zd2 (c:UInt8) (l:List UInt8):(bef c l).length≤l.length:=(List.takeWhile_prefix _).length_le
theorem Zkh (c:UInt8) (l:List UInt8):(aft c l).length≤l.length:=by
 unfold aft
 have:=(List.dropWhile_suffix (l:=l) fun b=>b !=c).length_le
 simp only[List.length_drop];omega
theorem Zix {c:UInt8} {l:List UInt8} (h:c∈l):l.drop ((bef c l).length+1)=aft c l:=by
 have h1:=ZgL h
 have h3:(bef c l++[c]++aft c l).drop ((bef c l).length+1)=aft c l:=by
  rw[List.drop_append,show (bef c l).length+1 - (bef c l++[c]).length=0 by simp,List.drop_eq_nil_of_le (by simp)];simp
 rwa [←h1] at h3
theorem Zpe (l:List UInt8) (c:UInt8):Lib.cut l [c]=(bef c l,aft c l,decide (c∈l)):=by
 unfold Lib.cut
 rw[Lib.index_one]
 have key:∀l:List UInt8,(0≤Lib.indexByte l c↔c∈l)∧(c∈l→Lib.indexByte l c=((bef c l).length:Int)):=by
  intro l
  induction l with
  | nil=>exact ⟨by simp [Lib.indexByte],fun h=>by cases h⟩
  | cons b l ih=>
   have hge:=Lib.indexByte_ge l c
   simp only[Lib.indexByte,List.mem_cons]
   by_cases h:(b==c)=true
   ·rw[if_pos h]
    have e:b=c:=by simpa using h
    exact ⟨⟨fun _=> .inl e.symm,fun _=>Int.le_refl _⟩,fun _=>by rw[Zbw,if_pos e];rfl⟩
   ·rw[if_neg h]
    have e:¬b=c:=fun e=>h (by simp [e])
    have e':¬c=b:=fun x=>e x.symm
    simp only[e',false_or]
    by_cases h2:(Lib.indexByte l c== -1)=true
    ·rw[if_pos h2]
     have h3:Lib.indexByte l c= -1:=by simpa using h2
     have h4:c∉l:=fun hc=>by have:=ih.1.2 hc;omega
     exact ⟨⟨fun h=>by omega,fun h=>absurd h h4⟩,fun h=>absurd h h4⟩
    ·rw[if_neg h2]
     have h3:Lib.indexByte l c≠ -1:=by simpa using h2
     have h4:c∈l:=ih.1.1 (by omega)
     refine ⟨⟨fun _=>h4,fun _=>by omega⟩,fun _=> ?_⟩
     rw[Zbw,if_neg e,ih.2 h4]
     simp
 by_cases h:c∈l
 ·rw[if_pos ((key l).1.2 h),(key l).2 h,decide_eq_true h]
  have h1:=ZgL h
  have h2:(bef c l++[c]++aft c l).take (bef c l).length=bef c l:=by simp
  have h3:(bef c l++[c]++aft c l).drop ((bef c l).length+1)=aft c l:=by
   rw[List.drop_append,show (bef c l).length+1 - (bef c l++[c]).length=0 by simp,List.drop_eq_nil_of_le (by simp)];simp
  rw[←h1] at h2 h3
  simp only[Int.toNat_natCast,List.length_singleton,h2,h3]
 ·rw[if_neg (fun h2=>h ((key l).1.1 h2)),decide_eq_false h,(Ziw h).1,(Ziw h).2]
theorem ZaT {N:Nat} {l:List UInt8} {c:UInt8} (h:l.length<4294967281):strings_Cut N (txt l) (txt [c])=some ((txt (bef c l),txt (aft c l),decide (c∈l)),()):=by
 simp only[strings_Cut,shortB,show (txt l).size=l.length from rfl,decide_eq_true h,chk_true',show (txt l).data.toList=l from rfl,show (txt [c]).data.toList=[c] from rfl,Zpe]
 rfl
theorem ZbX (x:ByteArray) (l h:Nat):scut x (l:Int) (h:Int)=txt (((bts x).take h).drop l):=Ze6 (Zld x l h)
theorem Zm3 (x:ByteArray) (l:Nat):scut x (l:Int) (slen x)=txt ((bts x).drop l):=by
 rw[show slen x=(((bts x).length:Nat):Int) from rfl,ZbX,List.take_length]
def spl (c:UInt8):List UInt8→List UInt8→List (List UInt8)
 | a,[]=>[a]
 | a,b::l=>if b=c then a::spl c [] l else spl c (a++[b]) l
theorem ZfW (c:UInt8):∀(l a:List UInt8),gd ((spl c a l).map txt) 0 ⟨#[]⟩=txt (a++bef c l)
 | [],a=>by simp [spl,bef,gd]
 | b::l,a=>by
  rw[spl,Zbw]
  by_cases h:b=c
  ·rw[if_pos h,if_pos h];simp [gd]
  ·rw[if_neg h,if_neg h,ZfW c l (a++[b])];simp
theorem Zd3 (c:UInt8):∀(l a:List UInt8),1≤(spl c a l).length
 | [],a=>by simp [spl]
 | b::l,a=>by
  rw[spl]
  split
  ·simp
  ·exact Zd3 c l _
theorem Zki (c:UInt8):∀(l a:List UInt8),2≤(spl c a l).length↔c∈l
 | [],a=>by simp [spl]
 | b::l,a=>by
  rw[spl,List.mem_cons]
  by_cases h:b=c
  ·have:=Zd3 c l []
   rw[if_pos h,List.length_cons]
   exact ⟨fun _=> .inl h.symm,fun _=>by omega⟩
  ·rw[if_neg h,Zki c l (a++[b])]
   exact ⟨.inr,fun hh=>hh.resolve_left fun e=>h e.symm⟩
theorem Zm4 (c:UInt8):∀(l a:List UInt8),(spl c a l).length≤l.length+1
 | [],a=>by simp [spl]
 | b::l,a=>by
  rw[spl]
  split
  ·have:=Zm4 c l [];simp only[List.length_cons];omega
  ·have:=Zm4 c l (a++[b]);simp only[List.length_cons];omega
theorem ZlU {N:Nat} {s:ByteArray} {c:UInt8} (hs:(bts s).length<2000000):∀(d i f:Nat) (out:List ByteArray),i+d=(bts s).length→f≤i→out.length≤i→∀m,d<m→
  Q143_L1 N m s (c.toNat:Int) f i out=some (out++(spl c (((bts s).take i).drop f) ((bts s).drop i)).map txt,()):=by
 intro d
 induction d with
 | zero=>
  intro i f out hi hf ho m hm
  obtain ⟨q,rfl⟩:∃q,m=q+1:=⟨m - 1,by omega⟩
  have hil:i=(bts s).length:=by omega
  rw[Q143_L1_succ]
  simp only[Q143_B1,Q143_K1,show slen s=(((bts s).length:Nat):Int) from rfl,ilt_eq,hil,Int.lt_irrefl,decide_false,cond_false]
  rw[ZM (by omega) (by omega) (by rw[Ze];omega),chk_true',Zn (by omega) (by omega),chk_true',ZbX,List.take_length,List.drop_length]
  rfl
 | succ d ih=>
  intro i f out hi hf ho m hm
  obtain ⟨q,rfl⟩:∃q,m=q+1:=⟨m - 1,by omega⟩
  have hil:i<(bts s).length:=by omega
  have hil':i<s.size:=hil
  obtain ⟨x,hx⟩:∃x,(bts s)[i]? =some x:=⟨_,List.getElem?_eq_getElem hil⟩
  have h1:=Ze7 s i hil'
  rw[hx,Option.some.injEq] at h1
  have hdr:(bts s).drop i=x::(bts s).drop (i+1):=by
   rw[List.drop_eq_getElem_cons hil]
   rw[List.getElem?_eq_getElem hil,Option.some.injEq] at hx
   rw[hx]
  have htk:(bts s).take (i+1)=(bts s).take i++[x]:=by
   rw[List.take_add_one,hx];rfl
  have hch:chr s i=x.toNat:=by unfold chr;rw[h1]
  rw[Q143_L1_succ,hdr,spl]
  simp only[Q143_B1,show slen s=(((bts s).length:Nat):Int) from rfl,ilt_eq,ieq_eq,Int.ofNat_lt,hil,decide_true,cond_true,Zb hil',chk_true',Zal,hch,Zc (show i<4611686018427387904 by omega)]
  by_cases hc:x=c
  ·rw[if_pos hc,hc,decide_eq_true rfl]
   simp only[cond_true]
   rw[ZM (by omega) (by omega) (by rw[Ze];omega),chk_true',Zn (by omega) (by omega),chk_true',ZbX,ih (i+1) (i+1) _ (by omega) (by omega) (by simp;omega) q (by omega)]
   simp
  ·rw[if_neg hc,decide_eq_false (fun e=>hc (UInt8.toNat_inj.1 (by omega)))]
   simp only[cond_false]
   rw[ih (i+1) f out (by omega) (by omega) (by omega) q (by omega),htk,List.drop_append_of_le_length (by simp;omega)]
theorem ZaU {N:Nat} {l:List UInt8} {c:UInt8} (hs:l.length<2000000) (hN:4194304≤N):Q143 N (txt l) (c.toNat:Int)=some ((spl c [] l).map txt,()):=by
 simp only[Q143]
 have:=ZlU (N:=N) (s:=txt l) (c:=c) (by rw[Zg];exact hs) l.length 0 0 [] (by rw[Zg];omega) (by omega) (by simp) N (by omega)
 rw[show ((0:Nat):Int)=0 from rfl] at this
 rw[this,Zg]
 simp
theorem ZcI {N:Nat} {t:List UInt8} (ht:t.length<2000000) (hN:4194304≤N):
  Q3 N (txt t)=some ((if t.length≤4000∧(35:UInt8)∉t∧(sealT t).length≤4000 then (txt (sealT t),true) else (⟨#[]⟩,false)),()):=by
 have h1:=ZgI t
 have h2:=ZG (k:=(csN t:Nat)) (by omega) (by omega)
 have hsz:(txt t).size=t.length:=rfl
 simp only[Q3,slen,ilt_eq,hsz]
 by_cases c1:t.length≤4000
 ·rw[decide_eq_false (show ¬(4000:Int)<(t.length:Int) by omega)]
  simp only[cond_false,strings_Contains,shortB,hsz,decide_eq_true (show t.length<4294967281 by omega),chk_true',Option.bind_some,
   show (txt t).data.toList=t from rfl,show (⟨#[35]⟩:ByteArray)=txt [35] from rfl,show (txt [35]).data.toList=[35] from rfl,Zfn]
  by_cases c2:(35:UInt8)∈t
  ·rw[decide_eq_true c2,if_neg (fun h=>h.2.1 c2)];rfl
  ·rw[decide_eq_false c2]
   simp only[cond_false]
   rw[ZJ (by rw[Ze,Ze,Zg,Zg];simp;omega),chk_true',ZcM (by rw[hsz];omega) hN]
   simp only[Option.bind_some,Zg,Zam (n:=(csN t:Nat)) (by omega) (by omega),Zap]
   rw[ZJ (by rw[Ze,Ze,Zg,Zg];simp;omega),chk_true']
   have h3:(txt (t++[35]++numT (csN t:Nat))).size=(sealT t).length:=rfl
   rw[h3]
   by_cases c3:(sealT t).length≤4000
   ·rw[decide_eq_false (show ¬(4000:Int)<((sealT t).length:Int) by omega),if_pos ⟨c1,c2,c3⟩];rfl
   ·rw[decide_eq_true (show (4000:Int)<((sealT t).length:Int) by omega),if_neg (fun h=>c3 h.2.2)];rfl
 ·rw[decide_eq_true (show (4000:Int)<(t.length:Int) by omega),if_neg (fun h=>c1 h.1)];rfl
def verB (l:List UInt8):Bool:=decide ((bef 35 l).length≤4000∧(sealT (bef 35 l)).length≤4000∧sealT (bef 35 l)=l)
theorem ZcS {N:Nat} {l:List UInt8} (ht:l.length<2000000) (hN:4194304≤N):
  Q49 N (txt l)=some ((if verB l=true then (txt (bef 35 l),true) else (⟨#[]⟩,false)),()):=by
 have hb:=Zd2 35 l
 simp only[Q49,show (⟨#[35]⟩:ByteArray)=txt [35] from rfl,ZaT (c:=35) (show l.length<4294967281 by omega),Option.bind_some,ZcI (show (bef 35 l).length<2000000 by omega) hN,Zkg,not_false_eq_true,true_and,verB,decide_eq_true_eq]
 by_cases c:(bef 35 l).length≤4000∧(sealT (bef 35 l)).length≤4000
 ·rw[if_pos c]
  simp only[Zb6,Bool.not_true,cond_false]
  by_cases c2:sealT (bef 35 l)=l
  ·rw[if_pos ⟨c.1,c.2,c2⟩,c2,decide_eq_true rfl];rfl
  ·rw[if_neg (fun h=>c2 h.2.2),decide_eq_false (fun e=>c2 (by rw[←Zg (sealT (bef 35 l)),e,Zg]))];rfl
 ·rw[if_neg c,if_neg (fun h=>c ⟨h.1,h.2.1⟩)];rfl
def parI (l:List UInt8):ByteArray×ByteArray:=(txt (bef 64 (aft 32 (if verB l=true then bef 35 l else []))),txt (aft 64 (aft 32 (if verB l=true then bef 35 l else []))))
def decI (k:Nat) (l:List UInt8):Option (ByteArray×ByteArray):=if encT k (parI l)=(txt (l++[10]),true) then some (parI l) else none
structure Line (k:Nat) (l:List UInt8) (e:ByteArray×ByteArray):Prop where
 hk:k<60
 hr:RecP e
 heq:lineT k (bts e.1) (bts e.2)=l++[10]
theorem Zkj {a b:List UInt8} (h:txt a=txt b):a=b:=by rw[←Zg a,h,Zg]
theorem Line.sealed {k:Nat} {l:List UInt8} {e:ByteArray×ByteArray} (h:Line k l e):l=sealT (textT k (bts e.1) (bts e.2)):=by
 have:=h.heq
 unfold lineT at this
 exact ((List.append_inj_left' this rfl)).symm
theorem Line.text {k:Nat} {l:List UInt8} {e:ByteArray×ByteArray} (h:Line k l e):bef 35 l=textT k (bts e.1) (bts e.2):=by
 rw[h.sealed]
 exact (ZdM (Zm2 (by omega) h.hr)).1
theorem Line.len {k:Nat} {l:List UInt8} {e:ByteArray×ByteArray} (h:Line k l e):(textT k (bts e.1) (bts e.2)).length≤400∧l.length≤410:=by
 have h1:=h.hr.n1
 have h2:=h.hr.n2
 have h3:=ZG (k:=(k:Int)) (by omega) (by have:=h.hk;omega)
 have h4:=ZgI (textT k (bts e.1) (bts e.2))
 have h5:=ZG (k:=(csN (textT k (bts e.1) (bts e.2)):Nat)) (by omega) (by omega)
 have h6:(textT k (bts e.1) (bts e.2)).length≤400:=by simp only[textT,List.length_append,List.length_singleton];omega
 refine ⟨h6, ?_⟩
 rw[h.sealed]
 simp only[sealT,List.length_append,List.length_singleton];omega
theorem Line.ver {k:Nat} {l:List UInt8} {e:ByteArray×ByteArray} (h:Line k l e):verB l=true:=by
 have h1:=h.len
 simp only[verB,decide_eq_true_eq,h.text,←h.sealed,and_true]
 omega
theorem Line.parI {k:Nat} {l:List UInt8} {e:ByteArray×ByteArray} (h:Line k l e):parI l=e:=by
 have h1:(32:UInt8)∉numT k:=fun hc=>by have:=(ZcH (show (0:Int)≤k by omega) _ hc).1;simp at this
 have h2:(64:UInt8)∉bts e.1:=fun hc=>(h.hr.pl1 _ hc).2.2.2 rfl
 have h3:aft 32 (textT k (bts e.1) (bts e.2))=bts e.1++[64]++bts e.2:=by
  unfold textT
  rw[List.append_assoc,List.append_assoc (numT k++[32])]
  rw[(ZdM h1).2];simp
 unfold Px.parI
 rw[if_pos h.ver,h.text,h3,(ZdM h2).1,(ZdM h2).2]
 rfl
theorem ZfX {k:Nat} {l:List UInt8} {e:ByteArray×ByteArray}:decI k l=some e↔Line k l e:=by
 constructor
 ·intro h
  unfold decI at h
  split at h
  ·rename_i h1
   cases h
   unfold encT at h1
   split at h1
   ·rename_i h2
    have h3:=Zkj (Prod.mk.inj h1).1
    have h4:=h2.1
    simp only[inRg,Bool.and_eq_true,decide_eq_true_eq] at h4
    exact ⟨by omega,ZcG.1 h2.2,h3⟩
   ·cases (Prod.mk.inj h1).2
  ·cases h
 ·intro h
  have h1:inRg 0 59 (k:Int)=true:=by have:=h.hk;simp only[inRg,Bool.and_eq_true,decide_eq_true_eq];omega
  unfold decI
  rw[h.parI,if_pos]
  unfold encT
  rw[if_pos ⟨h1,ZcG.2 h.hr⟩,h.heq]
theorem ZfY {k:Nat} {e:ByteArray×ByteArray}:(textT k (bts e.1) (bts e.2)).take (numT k++[32]).length=numT k++[32]∧(textT k (bts e.1) (bts e.2)).drop (numT k++[32]).length=bts e.1++[64]++bts e.2:=by
 unfold textT
 rw[List.append_assoc,List.append_assoc (numT k++[32])]
 exact ⟨List.take_left ..,by rw[List.drop_left];simp⟩
theorem Ze8 {N:Nat} {l:List UInt8} {k:Nat} (hl:l.length<1000000) (hk:k<60) (hN:4194304≤N):
  ∃e b,Q112 N (txt l) k=some ((e,b),())∧(b=true→decI k l=some e)∧(b=false→decI k l=none):=by
 have hb:=Zd2 35 l
 have hn:=ZG (k:=(k:Int)) (by omega) (by omega)
 have ha:(numT k++[32]).length=(numT k).length+1:=by simp
 have none_of:(∀e,¬Line k l e)→decI k l=none:=fun h=>by
  cases hd:decI k l with
  | none=>rfl
  | some e=>exact absurd (ZfX.1 hd) (h e)
 have hsp:0<((spl 35 [] l).map txt).length:=by have:=Zd3 35 l [];simp;omega
 simp only[Q112,Zy (n:=(k:Int)) (by omega) (by omega) hN,Option.bind_some,show (⟨#[32]⟩:ByteArray)=txt [32] from rfl,Zap]
 rw[ZJ (by rw[Ze,Ze,Zg,Zg];simp;omega),chk_true',show (35:Int)=((35:UInt8).toNat:Int) from rfl,ZaU (c:=35) (by omega) hN]
 simp only[Option.bind_some]
 rw[show (0:Int)=((0:Nat):Int) from rfl,Zb hsp,chk_true',show ((0:Nat):Int)=0 from rfl]
 simp only[ZfW,List.nil_append,show ∀x:List UInt8,slen (txt x)=(x.length:Int) from fun _=>rfl,ilt_eq]
 by_cases c1:(bef 35 l).length<(numT k++[32]).length
 ·rw[decide_eq_true (by omega)]
  refine ⟨_,_,rfl,(fun h=>by cases h),fun _=>none_of fun e he=> ?_⟩
  have:=he.text
  have h2:=(ZfY (k:=k) (e:=e)).1
  rw[this] at c1
  have h3:=congrArg List.length h2
  rw[List.length_take] at h3
  omega
 rw[decide_eq_false (by omega)]
 simp only[cond_false]
 rw[ZM (by omega) (by omega) (by show _≤((bef 35 l).length:Int);omega),chk_true',show (0:Int)=((0:Nat):Int) from rfl,ZbX,Zg,List.drop_zero]
 simp only[Zb6]
 rcases (Classical.em ((bef 35 l).take (numT k++[32]).length=numT k++[32])).symm with c2 | c2
 ·rw[decide_eq_false (fun e=>c2 (Zkj e))]
  refine ⟨_,_,rfl,(fun h=>by cases h),fun _=>none_of fun e he=>c2 ?_⟩
  rw[he.text];exact (ZfY (k:=k) (e:=e)).1
 rw[decide_eq_true (by rw[c2])]
 simp only[Bool.not_true,cond_false]
 rw[ZM (by omega) (by omega) (by show _≤((bef 35 l).length:Int);omega),chk_true',ZbX,Zg,List.take_length]
 generalize hR:(bef 35 l).drop (numT k++[32]).length=R
 have hRl:R.length<1000000:=by rw[←hR,List.length_drop];omega
 have hb2:=Zd2 64 R
 have hsp2:0<((spl 64 [] R).map txt).length:=by have:=Zd3 64 R [];simp;omega
 rw[show (64:Int)=((64:UInt8).toNat:Int) from rfl,ZaU (c:=64) (by omega) hN]
 simp only[Option.bind_some]
 rw[Zb hsp2,chk_true']
 simp only[ZfW,List.nil_append,ieq_eq,show ∀x:List UInt8,slen (txt x)=(x.length:Int) from fun _=>rfl]
 by_cases c3:(bef 64 R).length=R.length
 ·rw[decide_eq_true (by omega)]
  refine ⟨_,_,rfl,(fun h=>by cases h),fun _=>none_of fun e he=> ?_⟩
  have h2:=(ZfY (k:=k) (e:=e)).2
  rw[←he.text,hR] at h2
  have h3:(64:UInt8)∉bts e.1:=fun hc=>(he.hr.pl1 _ hc).2.2.2 rfl
  rw[h2,(ZdM h3).1] at c3
  simp only[List.length_append,List.length_singleton] at c3;omega
 have h64:(64:UInt8)∈R:=by
  by_cases h:(64:UInt8)∈R
  ·exact h
  ·exact absurd (congrArg List.length (Ziw h).1) c3
 have hlt:(bef 64 R).length+1≤R.length:=by omega
 rw[decide_eq_false (by omega),Zh (by omega) (by omega),show ((bef 64 R).length:Int)+1=(((bef 64 R).length+1:Nat):Int) by omega]
 simp only[cond_false]
 rw[ZM (by omega) (by omega) (by show _≤(R.length:Int);omega),chk_true',ZbX,Zg,List.take_length]
 have hdr:R.drop ((bef 64 R).length+1)=aft 64 R:=Zix h64
 rw[hdr]
 have haf:=Zkh 64 R
 generalize hE:((txt (bef 64 R),txt (aft 64 R)):ByteArray×ByteArray)=E
 have hE1:E.1.size=(bef 64 R).length:=by rw[←hE];rfl
 have hE2:E.2.size=(aft 64 R).length:=by rw[←hE];rfl
 rw[Za5 (by omega) (by omega) hN]
 simp only[Option.bind_some]
 have hEq:∀e,Line k l e→E=e:=fun e he=>by
  have h2:=(ZfY (k:=k) (e:=e)).2
  rw[←he.text,hR] at h2
  have h3:(64:UInt8)∉bts e.1:=fun hc=>(he.hr.pl1 _ hc).2.2.2 rfl
  rw[←hE,h2,(ZdM h3).1,(ZdM h3).2];rfl
 cases hrec:recB E with
 | false=>
  refine ⟨_,_,rfl,(fun h=>by cases h),fun _=>none_of fun e he=> ?_⟩
  rw[hEq e he] at hrec
  rw[ZcG.2 he.hr] at hrec;cases hrec
 | true=>
  have hp:=ZcG.1 hrec
  simp only[cond_true]
  rw[Zde (e:=E) (by omega) (by omega) (by omega) (by omega) hN]
  simp only[Option.bind_some,show (⟨#[10]⟩:ByteArray)=txt [10] from rfl]
  rw[ZJ (by rw[Ze,Ze,Zg,Zg];simp;omega),chk_true',Zap]
  by_cases c4:lineT k (bts E.1) (bts E.2)=l++[10]
  ·rw[c4,decide_eq_true rfl]
   exact ⟨_,_,rfl,fun _=>ZfX.2 ⟨hk,hp,c4⟩,fun h=>by cases h⟩
  ·rw[decide_eq_false (fun e=>c4 (Zkj e))]
   refine ⟨_,_,rfl,(fun h=>by cases h),fun _=>none_of fun e he=>c4 ?_⟩
   rw[hEq e he];exact he.heq
def nxR (k:Nat) (l:List UInt8):Option (ByteArray×ByteArray):=if (10:UInt8)∈l then decI k (bef 10 l) else none
def rdR:Nat→Nat→List UInt8→List (ByteArray×ByteArray)
 | 0,_,_=>[]
 | n+1,k,l=>match nxR k l with
  | some e=>e::rdR n (k+1) (aft 10 l)
  | none=>[]
def rdE:Nat→Nat→List UInt8→Nat→List Nat
 | 0,_,_,_=>[]
 | n+1,k,l,a=>match nxR k l with
  | some _=>(a+((bef 10 l).length+1))::rdE n (k+1) (aft 10 l) (a+((bef 10 l).length+1))
  | none=>[]
def rdC:Nat→Nat→List UInt8→Nat
 | 0,_,_=>0
 | n+1,k,l=>match nxR k l with
  | some _=>(bef 10 l).length+1+rdC n (k+1) (aft 10 l)
  | none=>0
theorem ZoB {k:Nat} {l:List UInt8} {e:ByteArray×ByteArray} (h:nxR k l=some e):(10:UInt8)∈l∧decI k (bef 10 l)=some e:=by
 unfold nxR at h
 split at h
 ·rename_i h1;exact ⟨h1,h⟩
 ·cases h
theorem Zpf (n k:Nat) (l:List UInt8) (a:Nat):(rdE n k l a).length=(rdR n k l).length:=by
 induction n generalizing k l a with
 | zero=>rfl
 | succ n ih=>
  simp only[rdE,rdR]
  cases nxR k l with
  | none=>rfl
  | some e=>simp [ih]
theorem Zkk (n k:Nat) (l:List UInt8):(rdR n k l).length≤n:=by
 induction n generalizing k l with
 | zero=>simp [rdR]
 | succ n ih=>
  simp only[rdR]
  cases nxR k l with
  | none=>simp
  | some e=>have:=ih (k+1) (aft 10 l);simp;omega
theorem ZjC {l:List UInt8} (h:(10:UInt8)∈l):l.length=(bef 10 l).length+1+(aft 10 l).length:=by
 have:=congrArg List.length (ZgL h)
 simp at this
 omega
theorem Zn8 (n k:Nat) (l:List UInt8) (a:Nat):(a::rdE n k l a)[(rdR n k l).length]? =some (a+rdC n k l):=by
 induction n generalizing k l a with
 | zero=>rfl
 | succ n ih=>
  simp only[rdE,rdR,rdC]
  cases h:nxR k l with
  | none=>simp
  | some e=>
   simp only[List.length_cons,List.getElem?_cons_succ]
   rw[ih (k+1) (aft 10 l) (a+((bef 10 l).length+1))]
   simp only[Option.some.injEq];omega
theorem ZpU (n k:Nat) (l:List UInt8) (a:Nat):∀x∈rdE n k l a,a<x∧x≤a+l.length:=by
 induction n generalizing k l a with
 | zero=>intro x hx;cases hx
 | succ n ih=>
  intro x hx
  simp only[rdE] at hx
  cases h:nxR k l with
  | none=>rw[h] at hx;cases hx
  | some e=>
   rw[h] at hx
   have h1:=ZjC (ZoB h).1
   rcases List.mem_cons.1 hx with rfl | hx
   ·omega
   ·have:=ih (k+1) (aft 10 l) _ x hx;omega
abbrev ints (l:List Nat):List Int:=l.map fun x:Nat=>(x:Int)
theorem Zm5 {N:Nat} {s:ByteArray} (hs:(bts s).length≤1000000) (hN:4194304≤N):∀(n at_:Nat) (v4:List (ByteArray×ByteArray)) (v5:List Int),v4.length+n=60→v5.length≤v4.length+1→at_≤(bts s).length→∀m,n<m→
  Q63_L1 N m s (at_:Int) v4 v5=some ((v4++rdR n v4.length ((bts s).drop at_),v5++ints (rdE n v4.length ((bts s).drop at_) at_)),()):=by
 intro n
 induction n with
 | zero=>
  intro at_ v4 v5 h4 h5 ha m hm
  obtain ⟨q,rfl⟩:∃q,m=q+1:=⟨m - 1,by omega⟩
  rw[Q63_L1_succ]
  simp only[Q63_B1,Q63_K1,ilt_eq,len_eq,decide_eq_false (show ¬(v4.length:Int)<60 by omega),cond_false,rdR,rdE,ints,List.map_nil,List.append_nil]
 | succ n ih=>
  intro at_ v4 v5 h4 h5 ha m hm
  obtain ⟨q,rfl⟩:∃q,m=q+1:=⟨m - 1,by omega⟩
  generalize hl:(bts s).drop at_=l
  have hll:l.length≤1000000:=by rw[←hl,List.length_drop];omega
  have hbl:=Zd2 10 l
  rw[Q63_L1_succ]
  simp only[Q63_B1,Q63_K1,ilt_eq,len_eq,decide_eq_true (show (v4.length:Int)<60 by omega),cond_true]
  rw[show slen s=(((bts s).length:Nat):Int) from rfl,ZM (by omega) (by omega) (by rw[Ze];omega),chk_true',ZbX,List.take_length,hl]
  simp only[show (⟨#[10]⟩:ByteArray)=txt [10] from rfl,show (⟨#[32]⟩:ByteArray)=txt [32] from rfl,show (⟨#[64]⟩:ByteArray)=txt [64] from rfl,ZaT (c:=10) (show l.length<4294967281 by omega),Option.bind_some,rdR,rdE,nxR]
  rcases Classical.em ((10:UInt8)∈l) with h10 | h10
  ·have hbl2:=Zd2 35 (bef 10 l)
   generalize hT:(if verB (bef 10 l)=true then bef 35 (bef 10 l) else [])=T
   have hTl:T.length≤1000000:=by rw[←hT];split<;>(try simp)<;>omega
   have hv:∃b,Q49 N (txt (bef 10 l))=some ((txt T,b),()):=by
    rw[ZcS (by omega) hN,←hT]
    split
    ·exact ⟨_,rfl⟩
    ·exact ⟨_,rfl⟩
   obtain ⟨b,hv⟩:=hv
   have haf:=Zkh 32 T
   have hpar:((txt (bef 64 (aft 32 T)),txt (aft 64 (aft 32 T))):ByteArray×ByteArray)=parI (bef 10 l):=by rw[←hT];rfl
   have hb6:=Zd2 64 (aft 32 T)
   have ha6:=Zkh 64 (aft 32 T)
   rw[decide_eq_true h10,if_pos h10]
   simp only[Bool.not_true,cond_false,hv,Option.bind_some,ZaT (c:=32) (show T.length<4294967281 by omega),ZaT (c:=64) (show (aft 32 T).length<4294967281 by omega)]
   rw[Zbr (by show (bef 64 (aft 32 T)).length<4194304;omega) (by show (aft 64 (aft 32 T)).length<4194304;omega) hN,hpar]
   simp only[Option.bind_some,decI,Zb6,Zap]
   cases he2:(encT (v4.length:Nat) (parI (bef 10 l))).2 with
   | false=>
    rw[if_neg (fun e=>by rw[e] at he2;cases he2)]
    simp only[Bool.not_false,cond_true,List.append_nil,ints,List.map_nil]
   | true=>
    simp only[Bool.not_true,cond_false]
    rw[ZJ (by rw[Ze,Ze,Zg,Zg];simp;omega),chk_true']
    by_cases he1:(encT (v4.length:Nat) (parI (bef 10 l))).1=txt (bef 10 l++[10])
    ·rw[if_pos (Prod.ext he1 he2),decide_eq_true he1]
     simp only[Bool.not_true,cond_false]
     have haf2:=ZjC h10
     have hat:at_+((bef 10 l).length+1)≤(bts s).length:=by
      have:l.length=(bts s).length - at_:=by rw[←hl,List.length_drop]
      omega
     have hw:iadd .i64 (at_:Int) (iadd .i64 (slen (txt (bef 10 l))) 1)=((at_+((bef 10 l).length+1):Nat):Int):=by
      rw[show slen (txt (bef 10 l))=(((bef 10 l).length:Nat):Int) from rfl,Zc (show (bef 10 l).length<4611686018427387904 by omega),Zh (by omega) (by omega)]
      omega
     have hdr:(bts s).drop (at_+((bef 10 l).length+1))=aft 10 l:=by
      rw[←List.drop_drop,hl,Zix h10]
     rw[hw,Zn (by omega) (by omega),chk_true',Zn (by omega) (by omega),chk_true',ih _ _ _ (by simp;omega) (by simp;omega) hat q (by omega),hdr]
     simp only[List.length_append,List.length_singleton,List.append_assoc,List.singleton_append,ints,List.map_cons]
    ·rw[if_neg (fun e=>he1 (Prod.mk.inj e).1),decide_eq_false he1]
     simp only[Bool.not_false,cond_true,List.append_nil,ints,List.map_nil]
  ·rw[decide_eq_false h10,if_neg h10]
   simp only[Bool.not_false,cond_true,List.append_nil,ints,List.map_nil]
theorem Zd4 {N:Nat} {s:ByteArray} (hs:(bts s).length≤1000000) (hN:4194304≤N):Q63 N s=some ((rdR 60 0 (bts s),(0:Int)::ints (rdE 60 0 (bts s) 0)),()):=by
 have:=Zm5 hs hN 60 0 [] [0] (by simp) (by simp) (by omega) N (by omega)
 simp only[Q63]
 rw[show ((0:Nat):Int)=0 from rfl] at this
 rw[this];rfl
theorem Zm6 {N:Nat} {s:ByteArray} (hs:(bts s).length≤900000) (hN:4194304≤N):∀(n at_:Nat) (v4:List (ByteArray×ByteArray)),v4.length+n=60→at_≤(bts s).length→∀m,n<m→
  Q125_L1 N m s (at_:Int) v4=some ((v4++rdR n v4.length ((bts s).drop at_),((at_+rdC n v4.length ((bts s).drop at_):Nat):Int)),()):=by
 intro n
 induction n with
 | zero=>
  intro at_ v4 h4 ha m hm
  obtain ⟨q,rfl⟩:∃q,m=q+1:=⟨m - 1,by omega⟩
  rw[Q125_L1_succ]
  simp only[Q125_B1,Q125_K1,ilt_eq,len_eq,decide_eq_false (show ¬(v4.length:Int)<60 by omega),cond_false,rdR,rdC,List.append_nil,Nat.add_zero]
  cases decide ((at_:Int)<slen s)<;>rfl
 | succ n ih=>
  intro at_ v4 h4 ha m hm
  obtain ⟨q,rfl⟩:∃q,m=q+1:=⟨m - 1,by omega⟩
  generalize hl:(bts s).drop at_=l
  have hl2:l.length=(bts s).length - at_:=by rw[←hl,List.length_drop]
  have hbl:=Zd2 10 l
  rw[Q125_L1_succ]
  simp only[Q125_B1,Q125_K1,ilt_eq,len_eq,decide_eq_true (show (v4.length:Int)<60 by omega),cond_true]
  rw[show slen s=(((bts s).length:Nat):Int) from rfl]
  by_cases hat:at_<(bts s).length
  ·rw[decide_eq_true (by omega)]
   simp only[cond_true]
   have hsp:0<((spl 10 [] l).map txt).length:=by have:=Zd3 10 l [];simp;omega
   rw[ZM (by omega) (by omega) (by rw[Ze];omega),chk_true',ZbX,List.take_length,hl,show (10:Int)=((10:UInt8).toNat:Int) from rfl,ZaU (c:=10) (by omega) hN]
   simp only[Option.bind_some]
   rw[show (0:Int)=((0:Nat):Int) from rfl,Zb hsp,chk_true']
   simp only[ZfW,List.nil_append]
   obtain ⟨e,b,h1,h2,h3⟩:=Ze8 (N:=N) (l:=bef 10 l) (k:=v4.length) (by omega) (by omega) hN
   rw[h1]
   simp only[Option.bind_some,List.length_map]
   by_cases h10:(10:UInt8)∈l
   ·have h11:=(Zki 10 l []).2 h10
    rw[decide_eq_false (by omega)]
    simp only[cond_false,rdR,rdC,nxR,if_pos h10]
    cases b with
    | false=>rw[h3 rfl];simp
    | true=>
     rw[h2 rfl]
     simp only[Bool.not_true,cond_false]
     have haf2:=ZjC h10
     have hw:iadd .i64 (iadd .i64 (at_:Int) (slen (txt (bef 10 l)))) 1=((at_+((bef 10 l).length+1):Nat):Int):=by
      have e1:iadd .i64 (at_:Int) (slen (txt (bef 10 l)))=(at_:Int)+((bef 10 l).length:Int):=Zh (by show -9223372036854775808≤(at_:Int)+((bef 10 l).length:Int);omega) (by show (at_:Int)+((bef 10 l).length:Int)<_;omega)
      rw[e1,Zh (by omega) (by omega)]
      omega
     have hdr:(bts s).drop (at_+((bef 10 l).length+1))=aft 10 l:=by
      rw[←List.drop_drop,hl,Zix h10]
     rw[hw,Zn (by omega) (by omega),chk_true',ih _ _ (by simp;omega) (by omega) q (by omega),hdr]
     simp only[List.length_append,List.length_singleton,List.append_assoc,List.singleton_append,chk_true',Option.some.injEq,Prod.mk.injEq,and_true,true_and]
     omega
   ·have h11:¬2≤(spl 10 [] l).length:=fun h=>h10 ((Zki 10 l []).1 h)
    rw[decide_eq_true (by omega)]
    simp [rdR,rdC,nxR,h10]
  ·rw[decide_eq_false (by omega)]
   have:l=[]:=List.eq_nil_of_length_eq_zero (by omega)
   subst this
   simp [rdR,rdC,nxR]
theorem Zdf {N:Nat} {s:ByteArray} (hs:(bts s).length≤900000) (hN:4194304≤N):Q125 N s=some ((rdR 60 0 (bts s),((rdC 60 0 (bts s):Nat):Int)),()):=by
 have:=Zm6 hs hN 60 0 [] (by simp) (by omega) N (by omega)
 simp only[Q125]
 rw[show ((0:Nat):Int)=0 from rfl] at this
 rw[this];simp
theorem Zpg (l:List UInt8):gd ((0:Int)::ints (rdE 60 0 l 0)) (rdR 60 0 l).length 0=((rdC 60 0 l:Nat):Int):=by
 have h:=Zn8 60 0 l 0
 have h2:((0:Int)::ints (rdE 60 0 l 0))=ints (0::rdE 60 0 l 0):=rfl
 rw[h2,gd,List.getD_eq_getElem?_getD,List.getElem?_map,h]
 simp
theorem Zle (l:List UInt8):((0:Int)::ints (rdE 60 0 l 0)).length=(rdR 60 0 l).length+1:=by simp [Zpf]
theorem Zkl {c:UInt8} {D P:List UInt8} (h:c∈D):bef c (D++P)=bef c D∧aft c (D++P)=aft c D++P:=by
 have h1:=ZgL h
 have h2:=ZdM (r:=aft c D++P) (Zkg c D)
 have h3:bef c D++[c]++(aft c D++P)=D++P:=by
  conv=>rhs;rw[h1]
  simp
 rw[h3] at h2;exact h2
theorem Zlf {c:UInt8}:∀ {D P:List UInt8},c∉D→bef c (D++P)=D++bef c P
 | [],_,_=>rfl
 | b::D,P,h=>by
  rw[List.mem_cons,not_or] at h
  rw[List.cons_append,Zbw,if_neg (fun e=>h.1 e.symm),Zlf h.2];rfl
theorem Zm7 (n k:Nat) (l:List UInt8) (a:Nat):∀x∈rdE n k l a,a+(bef 10 l).length+1≤x:=by
 intro x hx
 cases n with
 | zero=>cases hx
 | succ n=>
  simp only[rdE] at hx
  cases h:nxR k l with
  | none=>rw[h] at hx;cases hx
  | some e=>
   rw[h] at hx
   rcases List.mem_cons.1 hx with rfl | hx
   ·omega
   ·have:=(ZpU n (k+1) (aft 10 l) _ x hx).1;omega
theorem Zph (P:List UInt8):∀(n k:Nat) (D:List UInt8) (a:Nat),rdC n k D=D.length↔a+D.length∈a::rdE n k (D++P) a:=by
 intro n
 induction n with
 | zero=>
  intro k D a
  simp only[rdC,rdE,List.mem_singleton]
  omega
 | succ n ih=>
  intro k D a
  by_cases h10:(10:UInt8)∈D
  ·obtain ⟨h1,h2⟩:=Zkl (P:=P) h10
   have h3:nxR k (D++P)=nxR k D:=by unfold nxR;rw[if_pos (List.mem_append_left _ h10),if_pos h10,h1]
   have h4:=ZjC h10
   simp only[rdC,rdE,h3,h1,h2]
   cases nxR k D with
   | none=>
    simp only[List.mem_singleton]
    omega
   | some e=>
    simp only[List.mem_cons]
    have:=ih (k+1) (aft 10 D) (a+((bef 10 D).length+1))
    rw[List.mem_cons,show a+((bef 10 D).length+1)+(aft 10 D).length=a+D.length by omega] at this
    rw[←this]
    omega
  ·by_cases hD:D=[]
   ·subst hD
    have:nxR k []=none:=by simp [nxR]
    simp [rdC,this]
   ·have h0:0<D.length:=List.length_pos_iff.2 hD
    have h1:nxR k D=none:=by unfold nxR;rw[if_neg h10]
    have h2:a+D.length∉a::rdE (n+1) k (D++P) a:=by
     rw[List.mem_cons,not_or]
     refine ⟨by omega,fun hx=> ?_⟩
     have:=Zm7 (n+1) k (D++P) a _ hx
     rw[Zlf h10,List.length_append] at this
     omega
    have h3:rdC (n+1) k D=0:=by simp [rdC,h1]
    rw[h3]
    exact ⟨fun h=>by omega,fun h=>absurd h h2⟩
theorem ZeE {N:Nat} {s:List Int} {v:Int} (hs:s.length<4194304) (hN:4194304≤N):Q93 N s v=some (decide (v∈s),()):=by
 have key:∃r,Q94 N s v=some (r,())∧(0≤r↔v∈s):=by
  simp only[Q94,len_eq]
  rcases ZQ (fun i=> !decide (v=gd s i 0)) s.length with h | ⟨j,hj,hb,hat⟩
  ·have hh:∀i,i<s.length→¬v=gd s i 0:=fun i hi=>by simpa using h i hi
   refine ⟨-1, ?_,⟨fun h=>by omega,fun hm=> ?_⟩⟩
   ·refine Q94_L1_run N (fun _=>s) (fun _=>v) (fun _=>(s.length:Int)) (fun i=>(i:Int)) s.length (fun i hi kx=> ?_) (fun kx=> ?_) N (by omega)
    ·simp only[Q94_B1,ilt_eq,ieq_eq,Int.ofNat_lt,hi,decide_true,cond_true,Zb hi,chk_true',Int.toNat_natCast,decide_eq_false (hh i hi),cond_false,Zc (show i<4611686018427387904 by omega)]
    ·simp only[Q94_B1,Q94_K1,ilt_eq,Int.lt_irrefl,decide_false,cond_false]
   ·obtain ⟨i,hi,e⟩:=List.mem_iff_getElem.1 hm
    exact absurd (by simp [gd,List.getD_eq_getElem?_getD,hi,e]) (hh i hi)
  ·have hat':v=gd s j 0:=by simpa using hat
   refine ⟨(j:Int), ?_,⟨fun _=>hat'▸Zif 0 hj,fun _=>by omega⟩⟩
   refine Q94_L1_run N (fun _=>s) (fun _=>v) (fun _=>(s.length:Int)) (fun i=>(i:Int)) j (fun i hi kx=> ?_) (fun kx=> ?_) N (by omega)
   ·have h1:¬v=gd s i 0:=by simpa using hb i hi
    simp only[Q94_B1,ilt_eq,ieq_eq,Int.ofNat_lt,show i<s.length by omega,decide_true,cond_true,Zb (show i<s.length by omega),chk_true',Int.toNat_natCast,decide_eq_false h1,cond_false,Zc (show i<4611686018427387904 by omega)]
   ·simp only[Q94_B1,ilt_eq,ieq_eq,Int.ofNat_lt,hj,decide_true,cond_true,Zb hj,chk_true',Int.toNat_natCast,decide_eq_true hat']
 obtain ⟨r,h1,h2⟩:=key
 simp only[Q93,h1,Option.bind_some,ile_eq]
 rw[decide_eq_decide.2 h2]
abbrev Lo:Type:=ByteArray×ByteArray×Int
def logB (l:Lo):Bool:=decide (l.1.size+l.2.1.size≤30000) && (decide (rdC 60 0 (bts l.1++bts l.2.1)=l.1.size+l.2.1.size) && (decide (rdC 60 0 (bts l.1)=l.1.size) && decide (l.2.2=((rdR 60 0 (bts l.1++bts l.2.1)).length:Int))))
theorem Ziy (a b:ByteArray):scat a b=txt (bts a++bts b):=Ze6 (Zlc a b)
theorem ZbY {N:Nat} {l:Lo} (h1:l.1.size<4194304) (h2:l.2.1.size<4194304) (hN:4194304≤N):Q34 N l=some (logB l,()):=by
 obtain ⟨D,P,n⟩:=l
 simp only at h1 h2
 simp only[Q34,slen,ilt_eq,logB,Zh (show -9223372036854775808≤(D.size:Int)+P.size by omega) (by omega)]
 by_cases c:D.size+P.size≤30000
 ·have hlen:(bts D++bts P).length=D.size+P.size:=by rw[List.length_append,Ze,Ze]
  have hR:=Zkk 60 0 (bts D++bts P)
  rw[decide_eq_false (by omega),decide_eq_true c,Ziy]
  simp only[cond_false]
  rw[ZJ (by omega),chk_true',Zd4 (by rw[Zg];omega) hN]
  simp only[Option.bind_some,Zg,len_eq,Int.toNat_natCast,Zpg,ieq_eq,Bool.true_and]
  rw[Zb (by rw[Zle];omega),chk_true',ZeE (by rw[Zle];omega) hN]
  have hd:=Zph (bts P) 60 0 (bts D) 0
  rw[Nat.zero_add,←Ze] at hd
  have hm:((D.size:Nat):Int)∈(0:Int)::ints (rdE 60 0 (bts D++bts P) 0)↔D.size∈0::rdE 60 0 (bts D++bts P) 0:=by
   rw[show ((0:Int)::ints (rdE 60 0 (bts D++bts P) 0))=ints (0::rdE 60 0 (bts D++bts P) 0) from rfl,List.mem_map]
   exact ⟨fun ⟨x,hx,e⟩=>(show x=D.size by omega)▸hx,fun h=>⟨_,h,rfl⟩⟩
  have e1:decide (((D.size:Nat):Int)∈(0:Int)::ints (rdE 60 0 (bts D++bts P) 0))=decide (rdC 60 0 (bts D)=D.size):=decide_eq_decide.2 (hm.trans hd.symm)
  rw[e1]
  by_cases e2:rdC 60 0 (bts D++bts P)=D.size+P.size
  ·rw[decide_eq_true (show ((rdC 60 0 (bts D++bts P):Nat):Int)=(D.size:Int)+P.size by omega),decide_eq_true e2]
   cases decide (n=((rdR 60 0 (bts D++bts P)).length:Int))<;>cases decide (rdC 60 0 (bts D)=D.size)<;>rfl
  ·rw[decide_eq_false (show ¬((rdC 60 0 (bts D++bts P):Nat):Int)=(D.size:Int)+P.size by omega),decide_eq_false e2];rfl
 ·rw[decide_eq_true (by omega),decide_eq_false c];rfl
theorem ZcN {N:Nat} {l:Lo} (h1:l.1.size<4194304) (h2:l.2.1.size<4194304) (hN:4194304≤N):Q134 N l=some (logB l,()):=by
 obtain ⟨D,P,n⟩:=l
 simp only at h1 h2
 simp only[Q134,slen,ilt_eq,logB,Zh (show -9223372036854775808≤(D.size:Int)+P.size by omega) (by omega)]
 by_cases c:D.size+P.size≤30000
 ·have hlen:(bts D++bts P).length=D.size+P.size:=by rw[List.length_append,Ze,Ze]
  have hlD:(bts D).length=D.size:=rfl
  rw[decide_eq_false (by omega),decide_eq_true c,Ziy]
  simp only[cond_false]
  rw[ZJ (by omega),chk_true',Zdf (by rw[Zg];omega) hN]
  simp only[Option.bind_some,Zdf (s:=D) (by omega) hN,Zg,len_eq,ieq_eq,Bool.true_and]
  by_cases e2:rdC 60 0 (bts D++bts P)=D.size+P.size
  ·rw[decide_eq_true (show ((rdC 60 0 (bts D++bts P):Nat):Int)=(D.size:Int)+P.size by omega),decide_eq_true e2]
   by_cases e3:rdC 60 0 (bts D)=D.size
   ·rw[decide_eq_true (show ((rdC 60 0 (bts D):Nat):Int)=(D.size:Int) by omega),decide_eq_true e3]
    simp only[cond_true,Bool.true_and,eq_comm]
   ·rw[decide_eq_false (show ¬((rdC 60 0 (bts D):Nat):Int)=(D.size:Int) by omega),decide_eq_false e3];rfl
  ·rw[decide_eq_false (show ¬((rdC 60 0 (bts D++bts P):Nat):Int)=(D.size:Int)+P.size by omega),decide_eq_false e2];rfl
 ·rw[decide_eq_true (by omega),decide_eq_false c];rfl
abbrev RngLo (l:Lo):Prop:=RngS l.1∧RngS l.2.1∧RngZ l.2.2
theorem laws_szLog_eq (N:Nat) {l:Lo} {left:Int} (h:RngLo l) (h1:0≤left) (h2:left≤1048576):∃r,Q85 N l left=some (r,())∧(r<0∨0≤r∧r≤left∧(l.1.size:Int)≤left∧(l.2.1.size:Int)≤left):=by
 obtain ⟨a,b,_⟩:=h
 unfold RngS maxLen at a b
 simp only[Q85,slen,ilt_eq,Zx (show -9223372036854775808≤left - l.1.size by omega) (by omega)]
 by_cases c:left - (l.1.size:Int)<0
 ·exact ⟨-1,by simp [c], .inl (by omega)⟩
 ·rw[Zx (show -9223372036854775808≤left - (l.1.size:Int) - l.2.1.size by omega) (by omega)]
  by_cases c2:left - (l.1.size:Int) - l.2.1.size<0
  ·exact ⟨-1,by simp [c,c2], .inl (by omega)⟩
  ·exact ⟨left - l.1.size - l.2.1.size,by simp [c,c2], .inr (by omega)⟩
theorem Ze9 {l:Lo} (h:logB l=true):l.1.size+l.2.1.size≤30000∧0≤l.2.2∧l.2.2≤60:=by
 simp only[logB,Bool.and_eq_true,decide_eq_true_eq] at h
 have:=Zkk 60 0 (bts l.1++bts l.2.1)
 omega
theorem Zlg (x:Int):(bstr [x]).size=1:=rfl
theorem Ziz (N:Nat):∀(d u:Nat) (out:ByteArray),u<10 ^ d→d≤18→out.size+d≤1000→∀m,d<m→∃t,Q80_L1 N m (u:Int) out=some (t,()):=by
 intro d
 induction d with
 | zero=>
  intro u out hu _ ho m hm
  obtain ⟨q,rfl⟩:∃q,m=q+1:=⟨m - 1,by omega⟩
  have:u=0:=by omega
  subst this
  rw[Q80_L1_succ]
  simp only[Q80_B1,Q80_K1,ilt_eq,show ((0:Nat):Int)=0 from rfl,Int.lt_irrefl,decide_false,cond_false]
  rw[ZJ (by show 1+out.size<4194304;omega),chk_true']
  exact ⟨_,rfl⟩
 | succ d ih=>
  intro u out hu hd ho m hm
  obtain ⟨q,rfl⟩:∃q,m=q+1:=⟨m - 1,by omega⟩
  rw[Q80_L1_succ]
  simp only[Q80_B1,Q80_K1,ilt_eq]
  by_cases h0:u=0
  ·subst h0
   simp only[show ((0:Nat):Int)=0 from rfl,Int.lt_irrefl,decide_false,cond_false]
   rw[ZJ (by show 1+out.size<4194304;omega),chk_true']
   exact ⟨_,rfl⟩
  ·have hb:(10:Nat) ^ (d+1)≤10 ^ 18:=Nat.pow_le_pow_right (by omega) (by omega)
   have hb2:(10:Nat) ^ 18=1000000000000000000:=by decide
   have hq:iquo .i64 (u:Int) 10=((u / 10:Nat):Int):=by
    simp only[iquo]
    rw[Int.tdiv_eq_ediv_of_nonneg (by omega),Zc6 (by omega) (by omega)]
    omega
   rw[decide_eq_true (show (0:Int)<(u:Int) by omega)]
   simp only[cond_true,show ine 10 0=true from rfl,chk_true']
   rw[ZJ (by rw[Zlg];omega),chk_true',hq]
   refine ih (u / 10) _ (by rw[Nat.pow_succ] at hu;omega) (by omega) ?_ q (by omega)
   rw[Ze,Zlc,List.length_append,←Ze,←Ze,Zlg];omega
theorem ZiA {N:Nat} {k:Int} (h0:0≤k) (h1:k<1000000) (hN:4194304≤N):∃t,Q80 N k=some (t,()):=by
 obtain ⟨u,rfl⟩:∃u:Nat,k=(u:Int):=⟨k.toNat,by omega⟩
 simp only[Q80]
 cases ile (u:Int) 0 with
 | true=>exact ⟨_,rfl⟩
 | false=>exact Ziz N 6 u ⟨#[]⟩ (by omega) (by omega) (by show 0+6≤1000;omega) N (by omega)
def mv (N:Nat) (k:Int):ByteArray:=((Q80 N k).map (·.1)).getD ⟨#[]⟩
theorem ZpV {N:Nat} {k:Int} (h0:0≤k) (h1:k<1000000) (hN:4194304≤N):Q80 N k=some (mv N k,()):=by
 obtain ⟨t,h⟩:=ZiA h0 h1 hN
 unfold mv
 rw[h];rfl
abbrev RngCon (c:Lg×Lo):Prop:=RngLg c.1∧RngLo c.2
def lineOf (k:Int) (e:ByteArray×ByteArray):List UInt8:=lineT k (bts e.1) (bts e.2)
def sealOf (k:Int) (e:ByteArray×ByteArray):List UInt8:=sealT (textT k (bts e.1) (bts e.2))
theorem Zm8 {k:Nat} {e:ByteArray×ByteArray} (hk:k<60) (hp:RecP e):Line k (sealOf k e) e:=⟨hk,hp,rfl⟩
theorem ZlV {k:Int} {e:ByteArray×ByteArray} (h0:0≤k) (hp:RecP e):∀c∈sealOf k e,32≤c.toNat∧c.toNat≤126:=by
 intro c hc
 simp only[sealOf,sealT,textT,List.mem_append,List.mem_singleton] at hc
 rcases hc with (((((hc | hc) | hc) | hc) | hc) | hc) | hc
 ·have:=ZcH h0 _ hc;omega
 ·subst hc;decide
 ·have:=hp.pl1 _ hc;omega
 ·subst hc;decide
 ·have:=hp.pl2 _ hc;omega
 ·subst hc;decide
 ·have:=ZcH (k:=((csN (textT k (bts e.1) (bts e.2)):Nat):Int)) (by omega) _ hc;omega
theorem Zpi {k:Int} {e:ByteArray×ByteArray} (h0:0≤k) (hp:RecP e):(10:UInt8)∉sealOf k e:=fun h=>by
 have:=(ZlV h0 hp _ h).1;simp at this
theorem Zn9 {k:Nat} {e:ByteArray×ByteArray} (hk:k<60) (hp:RecP e):(10:UInt8)∈lineOf k e∧bef 10 (lineOf k e)=sealOf k e∧aft 10 (lineOf k e)=[]:=by
 have h1:lineOf k e=sealOf k e++[10]++[]:=by simp [lineOf,lineT,sealOf]
 rw[h1]
 have:=ZdM (r:=[]) (Zpi (k:=(k:Int)) (by omega) hp)
 exact ⟨by simp,this.1,this.2⟩
theorem Zoa {k:Nat} {e:ByteArray×ByteArray} (hk:k<60) (hp:RecP e):(lineOf k e).length≤411:=by
 have:=(Zm8 hk hp).len.2
 have h1:lineOf k e=sealOf k e++[10]:=rfl
 rw[h1,List.length_append,List.length_singleton];omega
theorem ZoC (n k:Nat):rdR n k []=[]∧rdC n k []=0:=by
 cases n with
 | zero=>exact ⟨rfl,rfl⟩
 | succ n=>
  have:nxR k []=none:=by simp [nxR]
  exact ⟨by simp [rdR,this],by simp [rdC,this]⟩
theorem ZpW {k:Nat} {B X:List UInt8} (h:(10:UInt8)∈B):nxR k (B++X)=nxR k B:=by
 unfold nxR
 rw[if_pos (List.mem_append_left _ h),if_pos h,(Zkl h).1]
theorem Zpj {k:Nat} {B:List UInt8} (h:(10:UInt8)∉B):nxR k B=none:=by unfold nxR;rw[if_neg h]
theorem Zkm {n k:Nat} {B:List UInt8} (h:nxR k B=none):rdR n k B=[]∧rdC n k B=0:=by
 cases n with
 | zero=>exact ⟨rfl,rfl⟩
 | succ n=>exact ⟨by simp [rdR,h],by simp [rdC,h]⟩
theorem Zpk {e:ByteArray×ByteArray} (hp:RecP e):∀(n k:Nat) (B:List UInt8),rdC n k B=B.length→(rdR n k B).length<n→k+n=60→
  rdR n k (B++lineOf ((k+(rdR n k B).length:Nat):Int) e)=rdR n k B++[e]∧rdC n k (B++lineOf ((k+(rdR n k B).length:Nat):Int) e)=(B++lineOf ((k+(rdR n k B).length:Nat):Int) e).length:=by
 intro n
 induction n with
 | zero=>intro k B _ h;omega
 | succ n ih=>
  intro k B hC hR hkn
  by_cases h10:(10:UInt8)∈B
  ·have hx:=ZpW (k:=k) (X:=lineOf ((k+(rdR (n+1) k B).length:Nat):Int) e) h10
   have h4:=ZjC h10
   cases hn:nxR k B with
   | none=>
    rw[(Zkm hn).2] at hC
    have:B=[]:=List.eq_nil_of_length_eq_zero hC.symm
    rw[this] at h10;cases h10
   | some e0=>
    have r1:rdR (n+1) k B=e0::rdR n (k+1) (aft 10 B):=by simp only[rdR,hn]
    have c1:rdC (n+1) k B=(bef 10 B).length+1+rdC n (k+1) (aft 10 B):=by simp only[rdC,hn]
    rw[c1] at hC
    rw[r1,List.length_cons] at hR
    obtain ⟨i1,i2⟩:=ih (k+1) (aft 10 B) (by omega) (by omega) (by omega)
    have hk:k+(rdR (n+1) k B).length=k+1+(rdR n (k+1) (aft 10 B)).length:=by rw[r1,List.length_cons];omega
    rw[hn] at hx
    rw[hk] at hx ⊢
    obtain ⟨b1,b2⟩:=Zkl (P:=lineOf ((k+1+(rdR n (k+1) (aft 10 B)).length:Nat):Int) e) h10
    constructor
    ·simp only[rdR,hx,b2,i1,hn,List.cons_append]
    ·simp only[rdC,hx,b1,b2,i2,List.length_append];omega
  ·have hn:=Zpj (k:=k) h10
   rw[(Zkm hn).2] at hC
   have:B=[]:=List.eq_nil_of_length_eq_zero hC.symm
   subst this
   obtain ⟨l1,l2,l3⟩:=Zn9 (k:=k) (by omega) hp
   have hd:=ZfX.2 (Zm8 (k:=k) (by omega) hp)
   have hx:nxR k (lineOf (k:Int) e)=some e:=by unfold nxR;rw[if_pos l1,l2,hd]
   have z:=ZoC n (k+1)
   simp only[(ZoC (n+1) k).1,List.length_nil,Nat.add_zero,List.nil_append]
   constructor
   ·simp only[rdR,hx,l3,z.1]
   ·simp only[rdC,hx,l2,l3,z.2]
    have h1:lineOf (k:Int) e=sealOf (k:Int) e++[10]:=rfl
    rw[h1,List.length_append,List.length_singleton]
theorem Zpl:∀(n k:Nat) (B:List UInt8),rdC n k B≤411*(rdR n k B).length:=by
 intro n
 induction n with
 | zero=>intro k B;simp [rdC]
 | succ n ih=>
  intro k B
  cases hn:nxR k B with
  | none=>rw[(Zkm hn).2];exact Nat.zero_le _
  | some e0=>
   obtain ⟨h10,hd⟩:=ZoB hn
   have hl:=(ZfX.1 hd).len.2
   have:=ih (k+1) (aft 10 B)
   simp only[rdC,rdR,hn,List.length_cons];omega
structure LogP (l:Lo):Prop where
 sz:l.1.size+l.2.1.size≤30000
 rd:rdC 60 0 (bts l.1++bts l.2.1)=(bts l.1++bts l.2.1).length
 du:rdC 60 0 (bts l.1)=(bts l.1).length
 ct:l.2.2=((rdR 60 0 (bts l.1++bts l.2.1)).length:Int)
theorem Zob {l:Lo}:logB l=true↔LogP l:=by
 simp only[logB,Bool.and_eq_true,decide_eq_true_eq]
 constructor
 ·rintro ⟨h1,h2,h3,h4⟩;exact ⟨h1,by rw[h2,List.length_append];rfl,h3,h4⟩
 ·intro h
  have:=h.rd
  rw[List.length_append] at this
  exact ⟨h.sz,this,h.du,h.ct⟩
def appT (l:Lo) (e:ByteArray×ByteArray):Lo×Int:=
 if logB l=true∧recB e=true then (if l.2.2=60 then (l,2) else ((l.1,txt (bts l.2.1++lineOf l.2.2 e),l.2.2+1),0)) else (l,1)
theorem ZgM {l:Lo} {e:ByteArray×ByteArray} (hl:logB l=true) (he:recB e=true) (hk:l.2.2≠60):LogP (l.1,txt (bts l.2.1++lineOf l.2.2 e),l.2.2+1)∧rdR 60 0 (bts l.1++(bts l.2.1++lineOf l.2.2 e))=rdR 60 0 (bts l.1++bts l.2.1)++[e]∧(lineOf l.2.2 e).length≤411:=by
 have h:=Zob.1 hl
 have hp:=ZcG.1 he
 have hle:=Zkk 60 0 (bts l.1++bts l.2.1)
 have hct:=h.ct
 have hlt:(rdR 60 0 (bts l.1++bts l.2.1)).length<60:=by omega
 obtain ⟨r1,r2⟩:=Zpk hp 60 0 (bts l.1++bts l.2.1) h.rd hlt rfl
 have ek:((0+(rdR 60 0 (bts l.1++bts l.2.1)).length:Nat):Int)=l.2.2:=by omega
 rw[ek] at r1 r2
 rw[List.append_assoc] at r1 r2
 have hln:=Zoa (k:=(rdR 60 0 (bts l.1++bts l.2.1)).length) hlt hp
 rw[←hct] at hln
 have hs:=Zpl 60 0 (bts l.1++(bts l.2.1++lineOf l.2.2 e))
 rw[r1,r2,List.length_append,List.length_append] at hs
 simp only[List.length_append,List.length_singleton] at hs
 refine ⟨⟨?_,by rw[Zg];exact r2,h.du, ?_⟩,r1,hln⟩
 ·show l.1.size+(txt (bts l.2.1++lineOf l.2.2 e)).size≤30000
  rw[Ze (txt _),Zg,Ze l.1,List.length_append];omega
 ·show l.2.2+1=_
  rw[Zg,r1,List.length_append,List.length_singleton];omega
theorem ZdB {N:Nat} {l:Lo} {e:ByteArray×ByteArray} (h1:l.1.size<4194304) (h2:l.2.1.size<4194304) (s1:e.1.size<4194304) (s2:e.2.size<4194304) (hN:4194304≤N):Q95 N l e=some (appT l e,()):=by
 simp only[Q95,ZcN h1 h2 hN,Option.bind_some,Za5 s1 s2 hN,appT]
 cases hv:logB l with
 | false=>rfl
 | true=>
  have hs:=Ze9 hv
  cases hr:recB e with
  | false=>rfl
  | true=>
   simp only[Bool.not_true,cond_false,ieq_eq]
   by_cases c:l.2.2=60
   ·rw[decide_eq_true c,if_pos ⟨trivial,trivial⟩,if_pos c];rfl
   ·have hp:=ZcG.1 hr
    have n1:=hp.n1
    have n2:=hp.n2
    have hln:=(ZgM hv hr c).2.2
    rw[decide_eq_false c,if_pos ⟨trivial,trivial⟩,if_neg c]
    simp only[cond_false,Zde (e:=e) (k:=l.2.2) (by omega) (by omega) (by rw[Ze];omega) (by rw[Ze];omega) hN,Option.bind_some]
    have e1:lineT l.2.2 (bts e.1) (bts e.2)=lineOf l.2.2 e:=rfl
    rw[e1,ZJ (by rw[Ze (txt _),Zg];omega),chk_true',Ziy,Zg,Zh (by omega) (by omega)]
theorem ZdC {N:Nat} {l:Lo} {e:ByteArray×ByteArray} (h1:l.1.size<4194304) (h2:l.2.1.size<4194304) (s1:e.1.size<4194304) (s2:e.2.size<4194304) (hN:4194304≤N):Q4 N l e=some (appT l e,()):=by
 simp only[Q4,ZbY h1 h2 hN,Option.bind_some,Zbi s1 s2 hN,Zbr (k:=l.2.2) s1 s2 hN,appT]
 cases hv:logB l with
 | false=>rfl
 | true=>
  have hs:=Ze9 hv
  cases hr:recB e with
  | false=>rfl
  | true=>
   simp only[Bool.not_true,cond_false,encT,hr,and_true]
   by_cases c:l.2.2=60
   ·rw[if_neg (by simp [inRg,c]),if_pos trivial,if_pos c];rfl
   ·have hin:inRg 0 59 l.2.2=true:=by simp only[inRg,Bool.and_eq_true,decide_eq_true_eq];omega
    have hln:=(ZgM hv hr c).2.2
    rw[if_pos hin,if_pos trivial,if_neg c]
    have e1:lineT l.2.2 (bts e.1) (bts e.2)=lineOf l.2.2 e:=rfl
    simp only[Bool.not_true,cond_false]
    rw[e1,ZJ (by rw[Ze (txt _),Zg];omega),chk_true',Ziy,Zg,Zh (by omega) (by omega)]
theorem Zm9 (l:Lo) (e:ByteArray×ByteArray):(appT l e).1.1.size+(appT l e).1.2.1.size≤l.1.size+l.2.1.size+411:=by
 unfold appT
 split
 ·rename_i h
  split
  ·exact Nat.le_add_right _ _
  ·rename_i c
   have:=(ZgM h.1 h.2 c).2.2
   show l.1.size+(txt (bts l.2.1++lineOf l.2.2 e)).size≤_
   rw[Ze (txt _),Zg,List.length_append,←Ze];omega
 ·exact Nat.le_add_right _ _
theorem Zna {xs:Pl} {i j:Nat} {v:List Int} (hi:i<xs.length):gd (List.set xs i v) j []=if j=i then v else gd xs j []:=by
 by_cases e:j=i
 ·subst e;rw[if_pos rfl];simp [gd,List.getD_eq_getElem?_getD,hi]
 ·rw[if_neg e];simp [gd,List.getD_eq_getElem?_getD,List.getElem?_set_ne (Ne.symm e)]
structure PerLen (P:Pl) (n:Nat):Prop where
 l:P.length≤n
 r:∀s,s<P.length→(gd P s []).length≤16
theorem PerLen.cons {P:Pl} {n:Nat} {l:List Int} (h:PerLen P n) (hl:l.length≤16):PerLen ([l]++P) (n+1):=⟨by have:=h.l;simp;omega,fun s hs=>by
 cases s with
 | zero=>exact hl
 | succ s=>exact h.r s (by simp at hs;omega)⟩
theorem PerLen.set {P:Pl} {n:Nat} {l:List Int} (h:PerLen P n) (h0:0<P.length) (hl:l.length≤16):PerLen (List.set P 0 l) n:=⟨by have:=h.l;simp;omega,fun s hs=>by
 rw[List.length_set] at hs
 rw[Zna h0]
 split
 ·exact hl
 ·exact h.r s hs⟩
structure Rect (P:Pl) (K n:Nat):Prop where
 l:P.length=K
 r:∀s,s<K→(gd P s []).length=n
theorem Rect.set {P:Pl} {K n s:Nat} {x:List Int} (h:Rect P K n) (hs:s<K) (hx:x.length=n):Rect (List.set P s x) K n:=⟨by rw[List.length_set];exact h.l,fun r hr=>by
 rw[Zna (by rw[h.l];exact hs)]
 split
 ·exact hx
 ·exact h.r r hr⟩
theorem Znb (xs:List (List UInt8)) (x sep:List UInt8) (h:xs≠[]):Lib.join (xs++[x]) sep=Lib.join xs sep++sep++x:=by
 cases xs with
 | nil=>exact absurd rfl h
 | cons a r=>rw[List.cons_append,Lib.join_cons,Lib.join_cons];simp [Lib.joinTail,List.map_append,List.flatten_append]
def wordsT (c:UInt8) (f:Nat→List UInt8) (n:Nat):List UInt8:=Lib.join ((List.range n).map f) [c]
theorem ZaJ (c:UInt8) (f:Nat→List UInt8):wordsT c f 0=[]:=rfl
theorem ZbD (c:UInt8) (f:Nat→List UInt8):wordsT c f 1=f 0:=by simp [wordsT,Lib.join_one]
theorem wordsT_succ (c:UInt8) (f:Nat→List UInt8) {n:Nat} (h:0<n):wordsT c f (n+1)=wordsT c f n++[c]++f n:=by
 unfold wordsT
 rw[List.range_succ,List.map_append,List.map_cons,List.map_nil,Znb _ _ _ (by simp;omega)]
theorem Za6 (c:UInt8) (f:Nat→List UInt8) {k:Nat}:∀n,(∀i,i<n→(f i).length≤k)→(wordsT c f n).length≤n*(k+1)
 | 0,_=>by simp [ZaJ]
 | n+1,h=>by
  have h1:=Za6 c f n (fun i hi=>h i (by omega))
  have h2:=h n (by omega)
  have e:(n+1)*(k+1)=n*(k+1)+(k+1):=by rw[Nat.add_mul];omega
  by_cases hn:n=0
  ·subst hn;rw[ZbD];omega
  ·rw[wordsT_succ c f (by omega)];simp;omega
theorem ZaV {N:Nat} {c:UInt8} {f:Nat→List UInt8} {n k:Nat} (hn:n<100000) (hk:k≤1000) (h:∀i,i<n→(f i).length≤k):strings_Join N ((List.range n).map fun i=>txt (f i)) (txt [c])=some (txt (wordsT c f n),()):=by
 have e:((List.range n).map fun i=>txt (f i)).map (·.data.toList)=(List.range n).map f:=by rw[List.map_map];rfl
 have e2:(txt [c]).data.toList=[c]:=rfl
 have h1:=Za6 c f n h
 have h2:n*(k+1)≤100000*1001:=Nat.mul_le_mul (by omega) (by omega)
 have h3:joinB ((List.range n).map fun i=>txt (f i)) (txt [c])=true:=by
  simp only[joinB,e,e2,List.length_map,List.length_range,Bool.and_eq_true,decide_eq_true_eq]
  exact ⟨by omega,by show (wordsT c f n).length≤_;omega⟩
 simp only[strings_Join,h3,chk_true',e,e2]
 rfl
theorem ZhO {n:Int} (h0: -1000000000000000000<n) (h1:n<1000000000000000000):(numT n).length≤21:=Lib.itoa_length_le n (by omega) (by omega)
theorem Zlh:∀(a b:List Int),a.length=b.length→(lexC a b<0↔∃j,j<a.length∧(∀i,i<j→gd a i 0=gd b i 0)∧gd a j 0<gd b j 0)
 | [],[],_=>by simp [lexC]
 | [],_::_,h | _::_,[],h=>by simp at h
 | a::x,b::y,h=>by
  have hl:x.length=y.length:=by simpa using h
  have ih:=Zlh x y hl
  simp only[lexC]
  by_cases h1:a<b
  ·rw[if_pos h1]
   exact ⟨fun _=>⟨0,by simp,fun i hi=>by omega,by simpa [gd] using h1⟩,fun _=>by omega⟩
  ·by_cases h2:b<a
   ·rw[if_neg h1,if_pos h2]
    refine ⟨fun h=>by omega,fun ⟨j,j1,j2,j3⟩=> ?_⟩
    cases j with
    | zero=>simp [gd] at j3;omega
    | succ j=>have:=j2 0 (by omega);simp [gd] at this;omega
   ·rw[if_neg h1,if_neg h2,ih]
    have hab:a=b:=by omega
    subst hab
    constructor
    ·rintro ⟨j,j1,j2,j3⟩
     refine ⟨j+1,by simpa using j1,fun i hi=> ?_,by simpa [gd] using j3⟩
     cases i with
     | zero=>simp [gd]
     | succ i=>have:=j2 i (by omega);simpa [gd] using this
    ·rintro ⟨j,j1,j2,j3⟩
     cases j with
     | zero=>simp [gd] at j3
     | succ j=>exact ⟨j,by simpa using j1,fun i hi=>by have:=j2 (i+1) (by omega);simpa [gd] using this,by simpa [gd] using j3⟩
theorem ZeF (a b:List Int):befB a b=decide (setC a b<0):=by
 rw[Bool.eq_iff_iff]
 simp only[befB,Bool.or_eq_true,Bool.and_eq_true,decide_eq_true_eq]
 by_cases h:a.length=b.length
 ·have e:setC a b=lexC a b:=by unfold setC;rw[if_pos h]
  rw[e,Zlh a b h]
  simp only[h,Nat.lt_irrefl,false_or,true_and,lexlt]
  rw[decide_eq_true_iff]
 ·have e:setC a b=(a.length:Int) - (b.length:Int):=by unfold setC;rw[if_neg h]
  rw[e]
  simp only[h,false_and,or_false]
  omega
theorem Znc {S:Nat→Bool} {n:Nat} {x:Int}:x∈pns S n↔∃i,i<n∧S i=true∧(i:Int)=x:=by
 simp only[pns,List.mem_map,List.mem_filter,List.mem_range]
 exact ⟨fun ⟨i,⟨h1,h2⟩,h3⟩=>⟨i,h1,h2,h3⟩,fun ⟨i,h1,h2,h3⟩=>⟨i,⟨h1,h2⟩,h3⟩⟩
theorem Zoc {S T:Nat→Bool} {n:Nat} (h:pns S n=pns T n) {i:Nat} (hi:i<n):S i=T i:=by
 have h1:((i:Int)∈pns S n)↔((i:Int)∈pns T n):=by rw[h]
 rw[Znc,Znc] at h1
 rw[Bool.eq_iff_iff]
 constructor
 ·intro hs
  obtain ⟨j,_,j2,j3⟩:=h1.1 ⟨i,hi,hs,rfl⟩
  obtain rfl:j=i:=by omega
  exact j2
 ·intro hs
  obtain ⟨j,_,j2,j3⟩:=h1.2 ⟨i,hi,hs,rfl⟩
  obtain rfl:j=i:=by omega
  exact j2
theorem Zod {n j k:Nat} (hj:j<2 ^ n) (hk:k<2 ^ n) (h:pns (bitS j) n=pns (bitS k) n):j=k:=by
 apply Nat.eq_of_testBit_eq
 intro i
 by_cases hi:i<n
 ·exact Zoc h hi
 ·have h2:2 ^ n≤2 ^ i:=Nat.pow_le_pow_right (by omega) (by omega)
  rw[Nat.testBit_lt_two_pow (by omega),Nat.testBit_lt_two_pow (by omega)]
def setsL (n:Nat):List (List Int):=(List.range (2 ^ n)).map fun k=>pns (bitS k) n
def sortL (n:Nat):List (List Int):=(setsL n).mergeSort leC
theorem ZjD {n:Nat} {x:List Int}:x∈setsL n↔∃k,k<2 ^ n∧x=pns (bitS k) n:=by
 simp only[setsL,List.mem_map,List.mem_range]
 exact ⟨fun ⟨k,h1,h2⟩=>⟨k,h1,h2.symm⟩,fun ⟨k,h1,h2⟩=>⟨k,h1,h2.symm⟩⟩
theorem ZjE {n:Nat} {x:List Int}:x∈sortL n↔∃k,k<2 ^ n∧x=pns (bitS k) n:=by
 unfold sortL;rw[List.mem_mergeSort,ZjD]
theorem Zkn (n:Nat):(setsL n).Nodup:=by
 unfold setsL
 rw[List.Nodup,List.pairwise_map]
 refine List.Pairwise.imp_of_mem (fun {a b} ha hb h=>fun e=>h (Zod (List.mem_range.1 ha) (List.mem_range.1 hb) e)) (List.nodup_range (n:=2 ^ n))
theorem ZjF (n:Nat):(sortL n).length=2 ^ n:=by simp [sortL,setsL,List.length_mergeSort]
theorem ZiB {n i:Nat} (hi:i<(sortL n).length):∃k,k<2 ^ n∧gd (sortL n) i []=pns (bitS k) n:=by
 have:gd (sortL n) i []∈sortL n:=Zif [] hi
 exact ZjE.1 this
theorem Znd (x y z:List Int) (h1:leC x y=true) (h2:leC y z=true):leC x z=true:=by
 simp only[leC,Bool.not_eq_true',decide_eq_false_iff_not] at h1 h2 ⊢
 exact ZdW h2 h1
theorem Zne (x y:List Int):(leC x y || leC y x)=true:=by
 have:=Zcy x y
 simp only[leC,Bool.or_eq_true,Bool.not_eq_true',decide_eq_false_iff_not]
 omega
theorem Zoe {n i j:Nat} (hij:i<j) (hj:j<(sortL n).length):befB (gd (sortL n) j []) (gd (sortL n) i [])=false:=by
 have h:=List.pairwise_mergeSort Znd Zne (setsL n)
 have h2:=List.pairwise_iff_getElem.1 h i j (by have:=hj;unfold sortL at this;omega) (by have:=hj;unfold sortL at this;exact this) hij
 have e:∀(k:Nat) (hk:k<(sortL n).length),gd (sortL n) k []=((setsL n).mergeSort leC)[k]'(by unfold sortL at hk;exact hk):=fun k hk=>by
  simp only[gd,List.getD_eq_getElem?_getD,List.getElem?_eq_getElem hk,Option.getD_some];rfl
 rw[e i (by omega),e j hj,ZeF]
 simp only[leC,Bool.not_eq_true',decide_eq_false_iff_not] at h2
 exact decide_eq_false h2
theorem ZjG {N n:Nat} (hn:n≤8) (hN:4194304≤N):Q64 N n=some (sortL n,()):=by
 have hp:=Zgy hn
 simp only[Q64,ile_eq,show (0:Int)≤(n:Int) by omega,decide_true,chk_true',Zdt (show n≤30 by omega)]
 refine Q64_L2_run N (fun _=>(n:Int)) (fun _=>((2 ^ n:Nat):Int)) (fun k=>(k:Int)) (fun k=>(List.range k).map fun k=>pns (bitS k) n) (2 ^ n) (fun k hk kx=> ?_) (fun kx=> ?_) N (by omega)
 ·simp only[Q64_B2,ilt_eq,Int.ofNat_lt,hk,decide_true,cond_true]
  refine Q64_L1_run N kx (fun _=>(n:Int)) (fun _=>(k:Int)) (fun _=>((2 ^ n:Nat):Int)) (fun _=>(k:Int)) (fun _=>(n:Int)) (fun i=>(i:Int)) (fun _=>(List.range k).map fun k=>pns (bitS k) n) (pns (bitS k)) n (fun i hi kx1=> ?_) (fun kx1=> ?_) N (by omega)
  ·have hc:=ZaX (bitS k) i
   simp only[cnt] at hc
   simp only[Q64_B1,ilt_eq,Int.ofNat_lt,hi,decide_true,cond_true,ile_eq,show (0:Int)≤(i:Int) by omega,chk_true',ZmH (show k<1000000000 by omega) (show i≤60 by omega),Zf (Zn (n:=(pns (bitS k) i).length+1) (b:=8) (by omega) (by omega)),pns_succ,Zc (show i<4611686018427387904 by omega)]
   cases h:k.testBit i<;>simp [bitS,h]
  ·simp only[Q64_B1,Q64_K1,ilt_eq,Int.lt_irrefl,decide_false,cond_false,Z0,Zf (Zn (n:=k+1) (b:=24) (by omega) (by omega)),Zc (show k<4611686018427387904 by omega)]
   rw[List.range_succ,List.map_append,List.map_cons,List.map_nil]
 ·have hok:sortOk ((List.range (2 ^ n)).map fun k=>pns (bitS k) n)=true:=by
   simp only[sortOk,Bool.and_eq_true,decide_eq_true_eq,List.all_eq_true,Z0]
   refine ⟨by omega,fun r hr=> ?_,Zkn n⟩
   obtain ⟨k,_,rfl⟩:=ZjD.1 hr
   have hc:=ZaX (bitS k) n
   simp only[cnt] at hc
   omega
  simp only[Q64_B2,Q64_K2,ilt_eq,Int.lt_irrefl,decide_false,cond_false,slices_SortFunc_int_int__impl_sets_1,hok,chk_true',Option.bind_some]
  rfl
def okL (L t:Nat) (x:Int):Bool:=inRg ((t:Int) - (L:Int)+1) t x
def omin:Option Int→Int→Int
 | none,r=>r
 | some a,r=>imin a r
def mnL (c:Cs) (L:Nat) (ps:List Int) (t:Nat):Nat→Option Int
 | 0=>none
 | j+1=>bif okL L t (gd ps j 0) then some (omin (mnL c L ps t j) (rateOf c (gd ps j 0).toNat t)) else mnL c L ps t j
def stL (c:Cs) (ps:List Int):Nat→Int
 | 0=>0
 | j+1=>stL c ps j+gd c.2.1 (gd ps j 0).toNat 0
def frL (c:Cs) (L:Nat) (ps:List Int):Nat→Option Int
 | 0=>some (stL c ps ps.length)
 | t+1=>match frL c L ps t with
  | none=>none
  | some s=>if 0<gd c.1 t 0 then (match mnL c L ps t ps.length with | none=>none | some r=>some (s+gd c.1 t 0*r)) else some s
def perP (n:Nat) (ps:List Int):Prop:=ps.length≤n∧∀j,j<ps.length→0≤gd ps j 0∧gd ps j 0<n
theorem ZfZ (S:Nat→Bool) (n:Nat):perP n (pns S n):=⟨ZaX S n,fun _ hj=>Zoy hj⟩
theorem Zli (c:Cs) (L:Nat) (ps:List Int) (t:Nat):∀m,(mnL c L ps t m=none∧∀j,j<m→okL L t (gd ps j 0)=false)∨(∃r,mnL c L ps t m=some r∧(∃j,j<m∧okL L t (gd ps j 0)=true∧r=rateOf c (gd ps j 0).toNat t)∧∀j,j<m→okL L t (gd ps j 0)=true→r≤rateOf c (gd ps j 0).toNat t)
 | 0=> .inl ⟨rfl,fun j hj=>by omega⟩
 | m+1=>by
  simp only[mnL]
  cases h:okL L t (gd ps m 0) with
  | false=>
   simp only[cond_false]
   rcases Zli c L ps t m with ⟨h1,h2⟩ | ⟨r,h1,⟨j,j1,j2,j3⟩,h3⟩
   ·refine .inl ⟨h1,fun j hj=> ?_⟩
    by_cases e:j=m
    ·subst e;exact h
    ·exact h2 j (by omega)
   ·refine .inr ⟨r,h1,⟨j,by omega,j2,j3⟩,fun q hq ho=> ?_⟩
    by_cases e:q=m
    ·subst e;rw[h] at ho;cases ho
    ·exact h3 q (by omega) ho
  | true=>
   simp only[cond_true]
   refine .inr ⟨_,rfl, ?_⟩
   rcases Zli c L ps t m with ⟨h1,h2⟩ | ⟨r,h1,⟨j,j1,j2,j3⟩,h3⟩
   ·rw[h1]
    refine ⟨⟨m,by omega,h,rfl⟩,fun q hq ho=> ?_⟩
    by_cases e:q=m
    ·subst e;exact Int.le_refl _
    ·rw[h2 q (by omega)] at ho;cases ho
   ·rw[h1]
    have hm:=ZcA (x:=r) (y:=rateOf c (gd ps m 0).toNat t)
    refine ⟨?_,fun q hq ho=> ?_⟩
    ·rcases hm.2.2 with e | e
     ·exact ⟨j,by omega,j2,by simp only[omin];rw[e,j3]⟩
     ·exact ⟨m,by omega,h,e⟩
    ·simp only[omin]
     by_cases e:q=m
     ·subst e;exact hm.2.1
     ·have:=h3 q (by omega) ho;omega
theorem Zlj {c:Cs} (hc:CaseP c) {L t:Nat} {ps:List Int} (hp:perP c.1.length ps) (ht:t≤c.1.length) {m:Nat} (hm:m≤ps.length) {r:Int} (h:mnL c L ps t m=some r):0≤r∧r≤81:=by
 rcases Zli c L ps t m with ⟨h1,_⟩ | ⟨r',h1,⟨j,j1,j2,j3⟩,_⟩
 ·rw[h1] at h;cases h
 ·rw[h1] at h;cases h
  have:=hp.2 j (by omega)
  simp only[okL,inRg,Bool.and_eq_true,decide_eq_true_eq] at j2
  rw[j3]
  exact Zb2 hc (by omega) (by omega) ht
theorem Zlk {c:Cs} (hc:CaseP c) {ps:List Int} (hp:perP c.1.length ps):∀j,j≤ps.length→0≤stL c ps j∧stL c ps j≤99*(j:Int)
 | 0,_=>by simp [stL]
 | j+1,hj=>by
  obtain ⟨h1,h2⟩:=Zlk hc hp j (by omega)
  have h3:=hp.2 j (by omega)
  have h4:=hc.b1 (gd ps j 0).toNat (by rw[hc.l1];omega)
  simp only[stL];omega
theorem ZjH {c:Cs} (hc:CaseP c) {L:Nat} {ps:List Int} (hp:perP c.1.length ps):∀t,t≤c.1.length→∀s,frL c L ps t=some s→0≤s∧s≤800+1620*(t:Int)
 | 0,_,s,h=>by
  simp only[frL,Option.some.injEq] at h
  subst h
  have:=Zlk hc hp ps.length (Nat.le_refl _)
  have:=hp.1
  have:=hc.n
  omega
 | t+1,ht,s,h=>by
  simp only[frL] at h
  split at h
  ·cases h
  ·rename_i s0 hs0
   obtain ⟨h1,h2⟩:=ZjH hc hp t (by omega) s0 hs0
   split at h
   ·split at h
    ·cases h
    ·rename_i r hr
     cases h
     have hb:=Zlj hc hp (show t≤c.1.length by omega) (Nat.le_refl _) hr
     have hn:=hc.b0 t (by omega)
     have m1:=Int.mul_nonneg hn.1 hb.1
     have m2:=Int.mul_le_mul hn.2 hb.2 hb.1 (by omega)
     omega
   ·cases h;omega
theorem ZeG {c:Cs} {L:Nat} {ps:List Int} {t:Nat} (h:frL c L ps t=none):∀m,t≤m→frL c L ps m=none:=by
 intro m
 induction m with
 | zero => intro hm; obtain rfl : t = 0 := by omega
           exact h
 | succ m ih=>
  intro hm
  by_cases e:t=m+1
  ·rw[←e];exact h
  ·simp only[frL,ih (by omega)]
theorem Zpm {a r:Int} (h:r≤a):imin a r=r:=by unfold imin;split<;>omega
theorem ZiC {N:Nat} {c:Cs} (hc:CaseP c) {L:Nat} (hL:L≤8) {ps:List Int} (hp:perP c.1.length ps) {t:Nat} (ht:t<c.1.length) (sum:Int) (hN:4194304≤N) {kx1:Int→List Int→Int→List Int→Int→Int→Cs→Option ((Int×Bool)×Unit)}:
  Q16_L1 N N kx1 (L:Int) ps sum (t:Nat) (gd c.1 t 0) 1099511627776 c.1 (c.1.length:Int) (t:Nat) ps (ps.length:Int) 0 c=Q16_K1 N kx1 (L:Int) ps sum (gd c.1 t 0) ((mnL c L ps t ps.length).getD 1099511627776) c.1 (c.1.length:Int) (t:Nat) c:=by
 have hn:=hc.n
 have hpl:=hp.1
 refine Q16_L1_run N kx1 (fun _=>(L:Int)) (fun _=>ps) (fun _=>sum) (fun _=>(t:Int)) (fun _=>gd c.1 t 0) (fun j=>(mnL c L ps t j).getD 1099511627776) (fun _=>c.1) (fun _=>(c.1.length:Int)) (fun _=>(t:Int)) (fun _=>ps) (fun _=>(ps.length:Int)) (fun j=>(j:Int)) (fun _=>c) ps.length (fun j hj kx=> ?_) (fun kx=> ?_) N (by omega)
 ·have hx:=hp.2 j hj
  have e1:iadd .i64 (isub .i64 (t:Int) (L:Int)) 1=(t:Int) - (L:Int)+1:=by rw[Zx (by omega) (by omega),Zh (by omega) (by omega)]
  simp only[Q16_B1,ilt_eq,Int.ofNat_lt,hj,decide_true,cond_true,Zb hj,chk_true',Int.toNat_natCast,e1,Zw,Option.bind_some,Zc (show j<4611686018427387904 by omega),mnL]
  cases h:okL L t (gd ps j 0) with
  | false=>rw[show inRg ((t:Int) - (L:Int)+1) t (gd ps j 0)=false from h];rfl
  | true=>
   rw[show inRg ((t:Int) - (L:Int)+1) t (gd ps j 0)=true from h]
   simp only[okL,inRg,Bool.and_eq_true,decide_eq_true_eq] at h
   have hr:Q21 N c (gd ps j 0) (t:Int)=some (rateOf c (gd ps j 0).toNat t,()):=by
    have:=ZaD (N:=N) hc (i:=(gd ps j 0).toNat) (t:=t) (by omega) (by omega) (by omega) hN
    rwa [show (((gd ps j 0).toNat:Nat):Int)=gd ps j 0 by omega] at this
   simp only[cond_true,hr,Option.bind_some]
   have hb:=Zb2 hc (i:=(gd ps j 0).toNat) (t:=t) (by omega) (by omega) (by omega)
   cases hm:mnL c L ps t j with
   | none=>simp only[Option.getD_none,omin,Option.getD_some,Zpm (show rateOf c (gd ps j 0).toNat t≤1099511627776 by omega)]
   | some a=>simp only[omin,Option.getD_some]
 ·simp only[Q16_B1,ilt_eq,Int.lt_irrefl,decide_false,cond_false]
theorem ZgN (c:Cs) (L:Nat) (ps:List Int):∀n,(∃s,frL c L ps n=some s)∨(∃j,j<n∧(∃s,frL c L ps j=some s)∧frL c L ps (j+1)=none∧frL c L ps n=none)
 | 0=> .inl ⟨_,rfl⟩
 | n+1=>by
  rcases ZgN c L ps n with ⟨s,h⟩ | ⟨j,j1,j2,j3,j4⟩
  ·cases h2:frL c L ps (n+1) with
   | some s=>exact .inl ⟨s,rfl⟩
   | none=>exact .inr ⟨n,by omega,⟨s,h⟩,h2,rfl⟩
  ·exact .inr ⟨j,by omega,j2,j3,ZeG j4 _ (by omega)⟩
def frR (o:Option Int):Int×Bool:=match o with | some s=>(s,true) | none=>(0,false)
theorem ZeH {N:Nat} {c:Cs} (hc:CaseP c) {L:Nat} (hL:L≤8) {ps:List Int} (hp:perP c.1.length ps) (hN:4194304≤N):Q16 N c (L:Int) ps=some (frR (frL c L ps c.1.length),()):=by
 have hn:=hc.n
 have hpl:=hp.1
 have step:∀t s,t<c.1.length→frL c L ps t=some s→∀kx1,Q16_B2 N kx1 (L:Int) ps s c.1 (c.1.length:Int) (t:Nat) c=match frL c L ps (t+1) with | some s'=>kx1 (L:Int) ps s' c.1 (c.1.length:Int) ((t+1:Nat):Int) c | none=>some ((0,false),()):=fun t s ht hs kx1=>by
  have hb:=ZjH hc hp t (by omega) s hs
  simp only[Q16_B2,ilt_eq,len_eq,Int.ofNat_lt,ht,decide_true,cond_true,Zb ht,chk_true',Int.toNat_natCast,ZiC hc hL hp ht s hN,Q16_K1,frL,hs,Zc (show t<4611686018427387904 by omega),ieq_eq]
  by_cases q:0<gd c.1 t 0
  ·simp only[q,decide_true,cond_true,if_true]
   cases hm:mnL c L ps t ps.length with
   | none=>simp only[Option.getD_none,decide_true,cond_true]
   | some r=>
    have hr:=Zlj hc hp (show t≤c.1.length by omega) (Nat.le_refl _) hm
    have hnn:=hc.b0 t ht
    have m1:=Int.mul_nonneg hnn.1 hr.1
    have m2:=Int.mul_le_mul hnn.2 hr.2 hr.1 (by omega)
    simp only[Option.getD_some,show ¬r=1099511627776 by omega,decide_false,cond_false,ZX (show -9223372036854775808≤gd c.1 t 0*r by omega) (by omega)]
    rw[Zh (by omega) (by omega)]
  ·simp only[q,decide_false,cond_false,if_false]
 have h3:Q16 N c (L:Int) ps=Q16_K3 N (L:Int) ps (stL c ps ps.length) c:=by
  simp only[Q16,len_eq]
  refine Q16_L3_run N (fun _=>(L:Int)) (fun _=>ps) (fun j=>stL c ps j) (fun _=>ps) (fun _=>(ps.length:Int)) (fun j=>(j:Int)) (fun _=>c) ps.length (fun j hj kx=> ?_) (fun kx=> ?_) N (by omega)
  ·have hx:=hp.2 j hj
   have hl1:=hc.l1
   have hb:=Zlk hc hp (j+1) hj
   simp only[stL] at hb
   simp only[Q16_B3,ilt_eq,Int.ofNat_lt,hj,decide_true,cond_true,Zb hj,chk_true',Int.toNat_natCast,show inB (gd ps j 0) c.2.1.length=true from Zc7 hx.1 (by rw[hl1];exact hx.2),Zc (show j<4611686018427387904 by omega),stL]
   rw[Zh (by omega) (by omega)]
  ·simp only[Q16_B3,ilt_eq,Int.lt_irrefl,decide_false,cond_false]
 rw[h3]
 simp only[Q16_K3,len_eq]
 rcases ZgN c L ps c.1.length with ⟨s,h⟩ | ⟨j,j1,⟨s,j2⟩,j3,j4⟩
 ·have hall:∀t,t≤c.1.length→∃s,frL c L ps t=some s:=fun t ht=>by
   cases h2:frL c L ps t with
   | some s=>exact ⟨s,rfl⟩
   | none=>rw[ZeG h2 _ ht] at h;cases h
  have key:=Q16_L2_run N (fun _=>(L:Int)) (fun _=>ps) (fun t=>(frL c L ps t).getD 0) (fun _=>c.1) (fun _=>(c.1.length:Int)) (fun t=>(t:Int)) (fun _=>c) c.1.length (res_:=some (frR (frL c L ps c.1.length),())) (fun t ht kx=>by
   obtain ⟨s0,h0⟩:=hall t (by omega)
   obtain ⟨s1,h1⟩:=hall (t+1) (by omega)
   rw[h0,h1,Option.getD_some,Option.getD_some,step t s0 ht h0 kx,h1]) (fun kx=>by
   simp only[Q16_B2,Q16_K2,ilt_eq,len_eq,Int.lt_irrefl,decide_false,cond_false,h,Option.getD_some,frR]) N (by omega)
  exact key
 ·have hall:∀t,t≤j→∃s,frL c L ps t=some s:=fun t ht=>by
   cases h2:frL c L ps t with
   | some s=>exact ⟨s,rfl⟩
   | none=>rw[ZeG h2 _ ht] at j2;cases j2
  have key:=Q16_L2_run N (fun _=>(L:Int)) (fun _=>ps) (fun t=>(frL c L ps t).getD 0) (fun _=>c.1) (fun _=>(c.1.length:Int)) (fun t=>(t:Int)) (fun _=>c) j (res_:=some (frR (frL c L ps c.1.length),())) (fun t ht kx=>by
   obtain ⟨s0,h0⟩:=hall t (by omega)
   obtain ⟨s1,h1⟩:=hall (t+1) (by omega)
   rw[h0,h1,Option.getD_some,Option.getD_some,step t s0 (by omega) h0 kx,h1]) (fun kx=>by
   rw[j2,Option.getD_some,step j s j1 j2 kx,j3,j4];rfl) N (by omega)
  exact key
theorem Zg2 {N:Nat} {c:Cs} (hc:CaseP c) {L:Nat} (hL:L≤8) {ps:List Int} (hp:perP c.1.length ps) {t:Nat} (ht:t<c.1.length) (hN:4194304≤N):Q170 N c (L:Int) ps (t:Nat)=some ((mnL c L ps t ps.length).getD (-1),()):=by
 have hn:=hc.n
 have hpl:=hp.1
 simp only[Q170]
 refine Q170_L1_run N (fun _=>(L:Int)) (fun _=>ps) (fun _=>(t:Int)) (fun j=>(mnL c L ps t j).getD (-1)) (fun j=>(j:Int)) (fun _=>c) ps.length (fun j hj kx=> ?_) (fun kx=> ?_) N (by omega)
 ·have hx:=hp.2 j hj
  have e1:iadd .i64 (gd ps j 0) (L:Int)=gd ps j 0+(L:Int):=Zh (by omega) (by omega)
  simp only[Q170_B1,ilt_eq,len_eq,ile_eq,Int.ofNat_lt,hj,decide_true,cond_true,Zb hj,chk_true',Int.toNat_natCast,e1,Zc (show j<4611686018427387904 by omega),mnL]
  by_cases q1:gd ps j 0≤(t:Int)
  ·by_cases q2:(t:Int)<gd ps j 0+(L:Int)
   ·have hok:okL L t (gd ps j 0)=true:=by simp only[okL,inRg,Bool.and_eq_true,decide_eq_true_eq];omega
    have hr:Q164 N c (gd ps j 0) (t:Int)=some (rateOf c (gd ps j 0).toNat t,()):=by
     have:=Zbc (N:=N) hc (i:=(gd ps j 0).toNat) (t:=t) (by omega) (by omega) (by omega) hN
     rwa [show (((gd ps j 0).toNat:Nat):Int)=gd ps j 0 by omega] at this
    simp only[q1,q2,hok,decide_true,cond_true,hr,Option.bind_some]
    cases hm:mnL c L ps t j with
    | none=>simp only[Option.getD_none,omin,Option.getD_some,show (-1:Int)<0 by omega,decide_true,cond_true]
    | some a=>
     have hb:=Zlj hc hp (show t≤c.1.length by omega) (show j≤ps.length by omega) hm
     simp only[omin,Option.getD_some,show ¬a<0 by omega,decide_false,cond_false]
     by_cases q3:rateOf c (gd ps j 0).toNat t<a
     ·simp only[q3,decide_true,cond_true,imin,if_true]
     ·simp only[q3,decide_false,cond_false,imin,if_false]
   ·have hok:okL L t (gd ps j 0)=false:=by
     cases h:okL L t (gd ps j 0) with
     | false=>rfl
     | true=>simp only[okL,inRg,Bool.and_eq_true,decide_eq_true_eq] at h;omega
    simp only[q1,q2,hok,decide_true,decide_false,cond_true,cond_false]
  ·have hok:okL L t (gd ps j 0)=false:=by
    cases h:okL L t (gd ps j 0) with
    | false=>rfl
    | true=>simp only[okL,inRg,Bool.and_eq_true,decide_eq_true_eq] at h;omega
   simp only[q1,hok,decide_false,cond_false]
 ·simp only[Q170_B1,Q170_K1,ilt_eq,len_eq,Int.lt_irrefl,decide_false,cond_false]
theorem ZgO {N:Nat} {c:Cs} (hc:CaseP c) {L:Nat} (hL:L≤8) {ps:List Int} (hp:perP c.1.length ps) (hN:4194304≤N):Q168 N c (L:Int) ps=some ((frL c L ps c.1.length).getD (-1),()):=by
 have hn:=hc.n
 have hpl:=hp.1
 have step:∀t s,t<c.1.length→frL c L ps t=some s→∀kx1,Q168_B1 N kx1 (L:Int) ps s (t:Nat) c=match frL c L ps (t+1) with | some s'=>kx1 (L:Int) ps s' ((t+1:Nat):Int) c | none=>some (-1,()):=fun t s ht hs kx1=>by
  have hb:=ZjH hc hp t (by omega) s hs
  simp only[Q168_B1,ilt_eq,len_eq,Int.ofNat_lt,ht,decide_true,cond_true,Zb ht,chk_true',Int.toNat_natCast,Zg2 hc hL hp ht hN,Option.bind_some,Q168_K1,frL,hs,Zc (show t<4611686018427387904 by omega)]
  by_cases q:0<gd c.1 t 0
  ·simp only[q,decide_true,cond_true,if_true]
   cases hm:mnL c L ps t ps.length with
   | none=>simp only[Option.getD_none,show (-1:Int)<0 by omega,decide_true,cond_true]
   | some r=>
    have hr:=Zlj hc hp (show t≤c.1.length by omega) (Nat.le_refl _) hm
    have hnn:=hc.b0 t ht
    have m1:=Int.mul_nonneg hnn.1 hr.1
    have m2:=Int.mul_le_mul hnn.2 hr.2 hr.1 (by omega)
    simp only[Option.getD_some,show ¬r<0 by omega,decide_false,cond_false,ZX (show -9223372036854775808≤gd c.1 t 0*r by omega) (by omega)]
    rw[Zh (by omega) (by omega)]
  ·simp only[q,decide_false,cond_false,if_false]
 have h3:Q168 N c (L:Int) ps=Q168_K3 N (L:Int) ps (stL c ps ps.length) c:=by
  simp only[Q168]
  refine Q168_L2_run N (fun _=>(L:Int)) (fun _=>ps) (fun j=>stL c ps j) (fun j=>(j:Int)) (fun _=>c) ps.length (fun j hj kx=> ?_) (fun kx=> ?_) N (by omega)
  ·have hx:=hp.2 j hj
   have hl1:=hc.l1
   have hb:=Zlk hc hp (j+1) hj
   simp only[stL] at hb
   simp only[Q168_B2,ilt_eq,len_eq,Int.ofNat_lt,hj,decide_true,cond_true,Zb hj,chk_true',Int.toNat_natCast,show inB (gd ps j 0) c.2.1.length=true from Zc7 hx.1 (by rw[hl1];exact hx.2),Zc (show j<4611686018427387904 by omega),stL]
   rw[Zh (by omega) (by omega)]
  ·simp only[Q168_B2,ilt_eq,len_eq,Int.lt_irrefl,decide_false,cond_false]
 rw[h3]
 simp only[Q168_K3]
 rcases ZgN c L ps c.1.length with ⟨s,h⟩ | ⟨j,j1,⟨s,j2⟩,j3,j4⟩
 ·have hall:∀t,t≤c.1.length→∃s,frL c L ps t=some s:=fun t ht=>by
   cases h2:frL c L ps t with
   | some s=>exact ⟨s,rfl⟩
   | none=>rw[ZeG h2 _ ht] at h;cases h
  have key:=Q168_L1_run N (fun _=>(L:Int)) (fun _=>ps) (fun t=>(frL c L ps t).getD 0) (fun t=>(t:Int)) (fun _=>c) c.1.length (res_:=some ((frL c L ps c.1.length).getD (-1),())) (fun t ht kx=>by
   obtain ⟨s0,h0⟩:=hall t (by omega)
   obtain ⟨s1,h1⟩:=hall (t+1) (by omega)
   rw[h0,h1,Option.getD_some,Option.getD_some,step t s0 ht h0 kx,h1]) (fun kx=>by
   simp only[Q168_B1,Q168_K2,ilt_eq,len_eq,Int.lt_irrefl,decide_false,cond_false,h,Option.getD_some]) N (by omega)
  exact key
 ·have hall:∀t,t≤j→∃s,frL c L ps t=some s:=fun t ht=>by
   cases h2:frL c L ps t with
   | some s=>exact ⟨s,rfl⟩
   | none=>rw[ZeG h2 _ ht] at j2;cases j2
  have key:=Q168_L1_run N (fun _=>(L:Int)) (fun _=>ps) (fun t=>(frL c L ps t).getD 0) (fun t=>(t:Int)) (fun _=>c) j (res_:=some ((frL c L ps c.1.length).getD (-1),())) (fun t ht kx=>by
   obtain ⟨s0,h0⟩:=hall t (by omega)
   obtain ⟨s1,h1⟩:=hall (t+1) (by omega)
   rw[h0,h1,Option.getD_some,Option.getD_some,step t s0 (by omega) h0 kx,h1]) (fun kx=>by
   rw[j2,Option.getD_some,step j s j1 j2 kx,j3,j4];rfl) N (by omega)
  exact key
def frO (c:Cs) (L k:Nat):Option Int:=frL c L (pns (bitS k) c.1.length) c.1.length
noncomputable def fbSt (c:Cs) (L:Nat):Nat→List Int×Int
 | 0=>([], -1)
 | k+1=>match frO c L k with
  | none=>fbSt c L k
  | some v=>bif tk (fbSt c L k).2 v (befB (pns (bitS k) c.1.length) (fbSt c L k).1) then (pns (bitS k) c.1.length,v) else fbSt c L k
def fiSt (c:Cs) (L:Nat) (Z:List (List Int)):Nat→List Int×Int
 | 0=>([],1099511627776)
 | i+1=>match frL c L (gd Z i []) c.1.length with
  | none=>fiSt c L Z i
  | some v=>if v<(fiSt c L Z i).2 then (gd Z i [],v) else fiSt c L Z i
theorem Zll {c:Cs} (hc:CaseP c) {L k:Nat} {v:Int} (h:frO c L k=some v):0≤v∧v≤13760:=by
 have:=ZjH hc (ZfZ (bitS k) c.1.length) c.1.length (Nat.le_refl _) v h
 have:=hc.n
 omega
theorem Zg3 {N:Nat} {c:Cs} (hc:CaseP c) {L:Nat} (hL:L≤8) (hN:4194304≤N):Q167 N c (L:Int)=some (fbSt c L (2 ^ c.1.length),()):=by
 have hn:=hc.n
 have hp:=Zgy hn
 simp only[Q167]
 have key:=Q167_L1_run N (fun _=>(L:Int)) (fun k=>(fbSt c L k).2) (fun k=>(k:Int)) (fun _=>c) (fun k=>(fbSt c L k).1) (2 ^ c.1.length) (res_:=some (fbSt c L (2 ^ c.1.length),())) (fun k hk kx=> ?_) (fun kx=> ?_) N (by omega)
 ·exact key
 ·have hl:=ZaX (bitS k) c.1.length
  simp only[cnt] at hl
  simp only[Q167_B1,ile_eq,len_eq,show (0:Int)≤c.1.length by omega,decide_true,chk_true',Zdt (show c.1.length≤30 by omega),ilt_eq,Int.ofNat_lt,hk,cond_true,ZdJ (show c.1.length≤30 by omega) (show k<1000000000 by omega) hN,Option.bind_some,ZgO hc hL (ZfZ (bitS k) c.1.length) hN,Zc (show k<4611686018427387904 by omega),fbSt,ieq_eq]
  cases hf:frO c L k with
  | none=>
   have hf':frL c L (pns (bitS k) c.1.length) c.1.length=none:=hf
   simp only[hf',Option.getD_none,show ¬(0:Int)≤ -1 by omega,decide_false,cond_false]
  | some v=>
   have hf':frL c L (pns (bitS k) c.1.length) c.1.length=some v:=hf
   have hv:=Zll hc hf
   simp only[hf',Option.getD_some,hv.1,decide_true,cond_true,tk]
   by_cases q1:(fbSt c L k).2<0
   ·simp only[q1,decide_true,cond_true,Bool.true_or]
   ·by_cases q2:v<(fbSt c L k).2
    ·simp only[q1,q2,decide_true,decide_false,cond_true,cond_false,Bool.true_or,Bool.or_true]
    ·by_cases q3:v=(fbSt c L k).2
     ·simp only[q1,q2,q3,decide_true,decide_false,cond_true,cond_false,ZcK (N:=N) (a:=pns (bitS k) c.1.length) (b:=(fbSt c L k).1) (by omega) hN,Option.bind_some,Bool.false_or,Bool.true_and,Int.lt_irrefl]
      cases befB (pns (bitS k) c.1.length) (fbSt c L k).1<;>rfl
     ·simp only[q1,q2,q3,decide_false,cond_false,Bool.false_or,Bool.false_and]
 ·simp only[Q167_B1,ile_eq,len_eq,show (0:Int)≤c.1.length by omega,decide_true,chk_true',Zdt (show c.1.length≤30 by omega),ilt_eq,Int.lt_irrefl,decide_false,cond_false,Q167_K1]
theorem ZcT {N:Nat} {c:Cs} (hc:CaseP c) {L:Nat} (hL:L≤8) (hN:4194304≤N):Q10 N c (L:Int)=some (fiSt c L (sortL c.1.length) (2 ^ c.1.length),()):=by
 have hn:=hc.n
 have hp:=Zgy hn
 have hl:=ZjF c.1.length
 simp only[Q10,len_eq,ZjG hn hN,Option.bind_some]
 have step:∀i,i<2 ^ c.1.length→Q16 N c (L:Int) (gd (sortL c.1.length) i [])=some (frR (frL c L (gd (sortL c.1.length) i []) c.1.length),()):=fun i hi=>by
  obtain ⟨k,_,hk⟩:=ZiB (n:=c.1.length) (i:=i) (by omega)
  rw[hk]
  exact ZeH hc hL (ZfZ _ _) hN
 rw[hl]
 have key:=Q10_L1_run N (fun _=>(L:Int)) (fun i=>(fiSt c L (sortL c.1.length) i).1) (fun i=>(fiSt c L (sortL c.1.length) i).2) (fun _=>((2 ^ c.1.length:Nat):Int)) (fun i=>(i:Int)) (fun _=>c) (fun _=>sortL c.1.length) (2 ^ c.1.length) (res_:=some (fiSt c L (sortL c.1.length) (2 ^ c.1.length),())) (fun i hi kx=> ?_) (fun kx=> ?_) N (by omega)
 ·exact key
 ·simp only[Q10_B1,Q10_K1,ilt_eq,Int.ofNat_lt,hi,decide_true,cond_true,Zb (show i<(sortL c.1.length).length by omega),chk_true',Int.toNat_natCast,step i hi,Option.bind_some,Zc (show i<4611686018427387904 by omega),fiSt]
  cases hf:frL c L (gd (sortL c.1.length) i []) c.1.length with
  | none=>simp only[frR,cond_false]
  | some v=>
   simp only[frR,cond_true]
   by_cases q:v<(fiSt c L (sortL c.1.length) i).2
   ·simp only[q,decide_true,cond_true,if_true]
   ·simp only[q,decide_false,cond_false,if_false]
 ·simp only[Q10_B1,Q10_K2,ilt_eq,Int.lt_irrefl,decide_false,cond_false]
theorem Zlm (x:List Int):befB x x=false:=by rw[ZeF,Zjq];rfl
theorem Zpn {x y:List Int} (h1:befB x y=false) (h2:befB y x=false):x=y:=by
 rw[ZeF] at h1 h2
 simp only[decide_eq_false_iff_not] at h1 h2
 have:=Zcy x y
 exact Zep (by omega)
def isBest (c:Cs) (L:Nat) (b:List Int×Int):Prop:=∃k,k<2 ^ c.1.length∧b.1=pns (bitS k) c.1.length∧frO c L k=some b.2∧∀j,j<2 ^ c.1.length→∀u,frO c L j=some u→b.2<u∨(b.2=u∧befB (pns (bitS j) c.1.length) b.1=false)
theorem ZlW {c:Cs} {L:Nat} {a b:List Int×Int} (ha:isBest c L a) (hb:isBest c L b):a=b:=by
 obtain ⟨k,k1,k2,k3,k4⟩:=ha
 obtain ⟨j,j1,j2,j3,j4⟩:=hb
 have h1:=k4 j j1 _ j3
 have h2:=j4 k k1 _ k3
 rw[←j2] at h1
 rw[←k2] at h2
 have e:a.2=b.2:=by omega
 have e2:a.1=b.1:=by
  rcases h1 with h1 | ⟨_,h1⟩
  ·omega
  ·rcases h2 with h2 | ⟨_,h2⟩
   ·omega
   ·exact Zpn h2 h1
 exact Prod.ext e2 e
theorem Zko {x y z:List Int} (h1:befB x y=false) (h2:befB y z=false):befB x z=false:=by
 rw[ZeF] at h1 h2 ⊢
 simp only[decide_eq_false_iff_not] at h1 h2 ⊢
 exact ZdW h1 h2
theorem Znf {c:Cs} (hc:CaseP c) (L:Nat):∀k,(fbSt c L k=([], -1)∧∀j,j<k→frO c L j=none)∨(∃q,q<k∧(fbSt c L k).1=pns (bitS q) c.1.length∧frO c L q=some (fbSt c L k).2∧∀j,j<k→∀u,frO c L j=some u→(fbSt c L k).2<u∨((fbSt c L k).2=u∧befB (pns (bitS j) c.1.length) (fbSt c L k).1=false))
 | 0=> .inl ⟨rfl,fun j hj=>by omega⟩
 | k+1=>by
  have ih:=Znf hc L k
  cases hf:frO c L k with
  | none=>
   have e:fbSt c L (k+1)=fbSt c L k:=by simp only[fbSt,hf]
   rw[e]
   rcases ih with ⟨h1,h2⟩ | ⟨q,q1,q2,q3,q4⟩
   ·refine .inl ⟨h1,fun j hj=> ?_⟩
    by_cases ej:j=k
    ·subst ej;exact hf
    ·exact h2 j (by omega)
   ·refine .inr ⟨q,by omega,q2,q3,fun j hj u hu=> ?_⟩
    by_cases ej:j=k
    ·subst ej;rw[hf] at hu;cases hu
    ·exact q4 j (by omega) u hu
  | some v=>
   have hv:=Zll hc hf
   cases ht:tk (fbSt c L k).2 v (befB (pns (bitS k) c.1.length) (fbSt c L k).1) with
   | true=>
    have e:fbSt c L (k+1)=(pns (bitS k) c.1.length,v):=by simp only[fbSt,hf,ht,cond_true]
    rw[e]
    refine .inr ⟨k,by omega,rfl,hf,fun j hj u hu=> ?_⟩
    by_cases ej:j=k
    ·subst ej;rw[hf] at hu;cases hu;exact .inr ⟨rfl,Zlm _⟩
    ·rcases ih with ⟨h1,h2⟩ | ⟨q,q1,q2,q3,q4⟩
     ·rw[h2 j (by omega)] at hu;cases hu
     ·have hq:=Zll hc q3
      simp only[tk,Bool.or_eq_true,Bool.and_eq_true,decide_eq_true_eq] at ht
      have:=q4 j (by omega) u hu
      rcases ht with ht | ht | ⟨ht,hb⟩
      ·omega
      ·left;show v<u;omega
      ·rcases this with h | ⟨h,h3⟩
       ·left;show v<u;omega
       ·right
        refine ⟨by show v=u;omega, ?_⟩
        show befB (pns (bitS j) c.1.length) (pns (bitS k) c.1.length)=false
        refine Zko h3 ?_
        rw[ZeF] at hb ⊢
        simp only[decide_eq_true_eq,decide_eq_false_iff_not] at hb ⊢
        have:=Zcy (pns (bitS k) c.1.length) (fbSt c L k).1
        omega
   | false=>
    have e:fbSt c L (k+1)=fbSt c L k:=by simp only[fbSt,hf,ht,cond_false]
    rw[e]
    simp only[tk,Bool.or_eq_false_iff,decide_eq_false_iff_not] at ht
    obtain ⟨t1,t2,t3⟩:=ht
    rcases ih with ⟨h1,h2⟩ | ⟨q,q1,q2,q3,q4⟩
    ·rw[h1] at t1;exact absurd (show (-1:Int)<0 by omega) t1
    ·refine .inr ⟨q,by omega,q2,q3,fun j hj u hu=> ?_⟩
     by_cases ej:j=k
     ·subst ej
      rw[hf] at hu;cases hu
      by_cases q5:v=(fbSt c L j).2
      ·right
       refine ⟨q5.symm, ?_⟩
       simpa [q5] using t3
      ·left;omega
     ·exact q4 j (by omega) u hu
theorem Zng {c:Cs} (hc:CaseP c) (L:Nat) {Z:List (List Int)} (hZ:∀i,i<Z.length→perP c.1.length (gd Z i [])):∀k,k≤Z.length→(fiSt c L Z k=([],1099511627776)∧∀j,j<k→frL c L (gd Z j []) c.1.length=none)∨(∃q,q<k∧(fiSt c L Z k).1=gd Z q []∧frL c L (gd Z q []) c.1.length=some (fiSt c L Z k).2∧∀j,j<k→∀u,frL c L (gd Z j []) c.1.length=some u→(fiSt c L Z k).2<u∨((fiSt c L Z k).2=u∧q≤j))
 | 0,_=> .inl ⟨rfl,fun j hj=>by omega⟩
 | k+1,hk=>by
  have hn:=hc.n
  have ih:=Zng hc L hZ k (by omega)
  cases hf:frL c L (gd Z k []) c.1.length with
  | none=>
   have e:fiSt c L Z (k+1)=fiSt c L Z k:=by simp only[fiSt,hf]
   rw[e]
   rcases ih with ⟨h1,h2⟩ | ⟨q,q1,q2,q3,q4⟩
   ·refine .inl ⟨h1,fun j hj=> ?_⟩
    by_cases ej:j=k
    ·subst ej;exact hf
    ·exact h2 j (by omega)
   ·refine .inr ⟨q,by omega,q2,q3,fun j hj u hu=> ?_⟩
    by_cases ej:j=k
    ·subst ej;rw[hf] at hu;cases hu
    ·exact q4 j (by omega) u hu
  | some v=>
   have hv:=ZjH hc (hZ k (by omega)) c.1.length (Nat.le_refl _) v hf
   by_cases ht:v<(fiSt c L Z k).2
   ·have e:fiSt c L Z (k+1)=(gd Z k [],v):=by simp only[fiSt,hf,ht,if_true]
    rw[e]
    refine .inr ⟨k,by omega,rfl,hf,fun j hj u hu=> ?_⟩
    by_cases ej:j=k
    ·subst ej;rw[hf] at hu;cases hu;exact .inr ⟨rfl,Nat.le_refl _⟩
    ·rcases ih with ⟨h1,h2⟩ | ⟨q,q1,q2,q3,q4⟩
     ·rw[h2 j (by omega)] at hu;cases hu
     ·have:=q4 j (by omega) u hu
      left;show v<u;omega
   ·have e:fiSt c L Z (k+1)=fiSt c L Z k:=by simp only[fiSt,hf,ht,if_false]
    rw[e]
    rcases ih with ⟨h1,h2⟩ | ⟨q,q1,q2,q3,q4⟩
    ·rw[h1] at ht;exact absurd (show v<1099511627776 by omega) ht
    ·refine .inr ⟨q,by omega,q2,q3,fun j hj u hu=> ?_⟩
     by_cases ej:j=k
     ·subst ej
      rw[hf] at hu;cases hu
      by_cases q5:v=(fiSt c L Z j).2
      ·exact .inr ⟨q5.symm,by omega⟩
      ·left;omega
     ·exact q4 j (by omega) u hu
theorem Zof {c:Cs} {L:Nat} {S:Nat→Bool} {t i:Nat} (hi:i<c.1.length) (hS:S i=true) (hit:i≤t) (hL:t<i+L):∃r,mnL c L (pns S c.1.length) t (pns S c.1.length).length=some r∧r≤rateOf c i t:=by
 obtain ⟨h1,h2⟩:=ZhF hi hS
 have hok:okL L t (gd (pns S c.1.length) (cnt S i) 0)=true:=by
  rw[h2];simp only[okL,inRg,Bool.and_eq_true,decide_eq_true_eq];omega
 rcases Zli c L (pns S c.1.length) t (pns S c.1.length).length with ⟨_,h3⟩ | ⟨r,h3,_,h4⟩
 ·rw[h3 _ h1] at hok;cases hok
 ·refine ⟨r,h3, ?_⟩
  have:=h4 _ h1 hok
  rwa [h2,Int.toNat_natCast] at this
theorem Zln {c:Cs} {L:Nat} {ps:List Int} (h:∀t,t<c.1.length→0<gd c.1 t 0→∃r,mnL c L ps t ps.length=some r):∀t,t≤c.1.length→∃s,frL c L ps t=some s
 | 0,_=>⟨_,rfl⟩
 | t+1,ht=>by
  obtain ⟨s,hs⟩:=Zln h t (by omega)
  simp only[frL,hs]
  by_cases q:0<gd c.1 t 0
  ·obtain ⟨r,hr⟩:=h t (by omega) q
   simp only[q,if_true,hr];exact ⟨_,rfl⟩
  ·simp only[q,if_false];exact ⟨_,rfl⟩
theorem Znh {c:Cs} {L:Nat} (hL:1≤L):∃k v,k<2 ^ c.1.length∧frO c L k=some v:=by
 obtain ⟨k,k1,k2⟩:=Zkc (fun _=>true) c.1.length
 obtain ⟨v,hv⟩:=Zln (c:=c) (L:=L) (ps:=pns (bitS k) c.1.length) (fun t ht _=>by
  obtain ⟨r,hr,_⟩:=Zof (c:=c) (L:=L) (S:=bitS k) (t:=t) ht (k2 t ht) (Nat.le_refl _) (by omega)
  exact ⟨r,hr⟩) c.1.length (Nat.le_refl _)
 exact ⟨k,v,k1,hv⟩
theorem Zni {c:Cs} (hc:CaseP c) {L:Nat} (hL:1≤L):isBest c L (fbSt c L (2 ^ c.1.length)):=by
 obtain ⟨k,v,k1,k2⟩:=Znh (c:=c) hL
 rcases Znf hc L (2 ^ c.1.length) with ⟨_,h⟩ | ⟨q,q1,q2,q3,q4⟩
 ·rw[h k k1] at k2;cases k2
 ·exact ⟨q,q1,q2,q3,q4⟩
theorem Zpo {c:Cs} (hc:CaseP c) {L:Nat} (hL:1≤L):isBest c L (fiSt c L (sortL c.1.length) (2 ^ c.1.length)):=by
 have hl:=ZjF c.1.length
 have hZ:∀i,i<(sortL c.1.length).length→perP c.1.length (gd (sortL c.1.length) i []):=fun i hi=>by
  obtain ⟨k,_,hk⟩:=ZiB hi
  rw[hk];exact ZfZ _ _
 have hat:∀k,k<2 ^ c.1.length→∃i,i<(sortL c.1.length).length∧gd (sortL c.1.length) i []=pns (bitS k) c.1.length:=fun k hk=>by
  have:pns (bitS k) c.1.length∈sortL c.1.length:=ZjE.2 ⟨k,hk,rfl⟩
  obtain ⟨i,hi,e⟩:=List.getElem_of_mem this
  exact ⟨i,hi,by simp only[gd,List.getD_eq_getElem?_getD,List.getElem?_eq_getElem hi,Option.getD_some,e]⟩
 rcases Zng hc L hZ (2 ^ c.1.length) (by omega) with ⟨_,h⟩ | ⟨q,q1,q2,q3,q4⟩
 ·obtain ⟨k,v,k1,k2⟩:=Znh (c:=c) hL
  obtain ⟨i,hi,e⟩:=hat k k1
  have:=h i (by omega)
  rw[e] at this
  have k2':frL c L (pns (bitS k) c.1.length) c.1.length=some v:=k2
  rw[this] at k2';cases k2'
 ·obtain ⟨k,k1,hk⟩:=ZiB (n:=c.1.length) (i:=q) (by omega)
  refine ⟨k,k1,by rw[q2,hk],by show frL c L (pns (bitS k) c.1.length) c.1.length=_;rw[←hk];exact q3,fun j hj u hu=> ?_⟩
  obtain ⟨i,hi,e⟩:=hat j hj
  have hu':frL c L (gd (sortL c.1.length) i []) c.1.length=some u:=by rw[e];exact hu
  rcases q4 i (by omega) u hu' with h | ⟨h1,h2⟩
  ·exact .inl h
  ·refine .inr ⟨h1, ?_⟩
   rw[q2,←e]
   by_cases eq:q=i
   ·subst eq;exact Zlm _
   ·exact Zoe (by omega) hi
theorem Zqf {c:Cs} (hc:CaseP c) {L:Nat} (hL:1≤L):fiSt c L (sortL c.1.length) (2 ^ c.1.length)=fbSt c L (2 ^ c.1.length):=ZlW (Zpo hc hL) (Zni hc hL)
theorem rsum_one {f g:Nat→Int}:∀ {n:Nat},(∀p,p<n→f p≤g p)→∀i,i<n→g i - f i≤rsum g n - rsum f n
 | 0,_,i,hi=>by omega
 | n+1,h,i,hi=>by
  simp only[rsum]
  have h1:=h n (by omega)
  by_cases e:i=n
  ·subst e
   have:=ZmV (f:=f) (g:=g) (n:=i) (fun p hp=>h p (by omega))
   omega
  ·have:=rsum_one (n:=n) (fun p hp=>h p (by omega)) i (by omega)
   omega
noncomputable def fbV (c:Cs) (L:Nat):Int:=(fbSt c L (2 ^ c.1.length)).2
theorem ZpX {c:Cs} (hc:CaseP c) {L:Nat} (hL:1≤L):0≤fbV c L∧fbV c L≤13760:=by
 obtain ⟨k,_,_,h,_⟩:=Zni hc hL
 exact Zll hc h
noncomputable def bfOf (c:Cs) (life:Int):List Int×Int×Bool:=bif caseB c && inRg 1 8 life then ((fbSt c life.toNat (2 ^ c.1.length)).1,(fbV c life.toNat,true)) else ([],(0,false))
theorem ZiD {life:Int} (h:inRg 1 8 life=true):((life.toNat:Nat):Int)=life∧1≤life.toNat∧life.toNat≤8:=by
 simp only[inRg,Bool.and_eq_true,decide_eq_true_eq] at h;omega
theorem Zfa {N:Nat} {c:Cs} (hs:SmC c) (life:Int) (hN:4194304≤N):Q6 N c life=some (bfOf c life,()):=by
 simp only[Q6,ZH hs hN,Option.bind_some,Zu,bfOf,Q59,Zw]
 cases h:caseB c with
 | false=>rfl
 | true=>
  have hc:=ZB.1 h
  cases h2:inRg 1 8 life with
  | false=>rfl
  | true=>
   obtain ⟨e,l1,l2⟩:=ZiD h2
   have:=ZcT (N:=N) hc l2 hN
   rw[e,Zqf hc l1] at this
   simp only[cond_true,Bool.true_and,this,Option.bind_some,fbV]
theorem Zfb {N:Nat} {c:Cs} (hs:SmC c) (life:Int) (hN:4194304≤N):Q97 N c life=some (bfOf c life,()):=by
 simp only[Q97,Q169,ZN hs hN,Option.bind_some,Zu,bfOf,ZF]
 cases h:caseB c with
 | false=>rfl
 | true=>
  have hc:=ZB.1 h
  simp only[cond_true,Option.bind_some,Bool.true_and]
  cases h2:inRg 1 8 life with
  | false=>rfl
  | true=>
   obtain ⟨e,l1,l2⟩:=ZiD h2
   have:=Zg3 (N:=N) hc l2 hN
   rw[e] at this
   simp only[cond_true,this,Option.bind_some,fbV]
def wordC (c:Cs) (t:Nat):List UInt8:=numT (gd c.1 t 0)++[47]++numT (gd c.2.1 t 0)++[47]++numT (gd c.2.2.1 t 0)++[47]++numT (gd c.2.2.2 t 0)
def textC (c:Cs):List UInt8:=if c.1.length=0 then [110,111,110,101] else wordsT 32 (wordC c) c.1.length
theorem CaseP.at {c:Cs} (hc:CaseP c) {t:Nat} (ht:t<c.1.length):(0≤gd c.1 t 0∧gd c.1 t 0≤20)∧(0≤gd c.2.1 t 0∧gd c.2.1 t 0≤99)∧(0≤gd c.2.2.1 t 0∧gd c.2.2.1 t 0≤9)∧(0≤gd c.2.2.2 t 0∧gd c.2.2.2 t 0≤9):=by
 have l1:=hc.l1;have l2:=hc.l2;have l3:=hc.l3
 exact ⟨hc.b0 t ht,hc.b1 t (by omega),hc.b2 t (by omega),hc.b3 t (by omega)⟩
theorem ZgP {c:Cs} (hc:CaseP c) {t:Nat} (ht:t<c.1.length):(wordC c t).length≤40:=by
 obtain ⟨a,b,d,e⟩:=hc.at ht
 have h1:=ZG (k:=gd c.1 t 0) (by omega) (by omega)
 have h2:=ZG (k:=gd c.2.1 t 0) (by omega) (by omega)
 have h3:=ZG (k:=gd c.2.2.1 t 0) (by omega) (by omega)
 have h4:=ZG (k:=gd c.2.2.2 t 0) (by omega) (by omega)
 simp only[wordC,List.length_append,List.length_cons,List.length_nil];omega
theorem Znj {c:Cs} (hc:CaseP c):(textC c).length≤400:=by
 unfold textC
 have h8:=hc.n
 by_cases h:c.1.length=0
 ·rw[if_pos h];simp
 ·rw[if_neg h]
  have:=Za6 32 (wordC c) (k:=40) c.1.length (fun i hi=>ZgP hc hi)
  have h2:c.1.length*(40+1)≤8*41:=Nat.mul_le_mul h8 (Nat.le_refl _)
  omega
theorem ZfA {N:Nat} {l:List Int} (hl:l.length≤100) (hb:∀i,i<l.length→0≤gd l i 0∧gd l i 0<1000000) (c:UInt8) (hN:4194304≤N):Q56 N l (txt [c])=some (txt (wordsT c (fun i=>numT (gd l i 0)) l.length),()):=by
 simp only[Q56,len_eq]
 refine Q56_L1_run N (fun _=>txt [c]) (fun _=>l) (fun _=>(l.length:Int)) (fun i=>(i:Int)) (fun i=>(List.range i).map fun i=>txt (numT (gd l i 0))) l.length (fun i hi kx=> ?_) (fun kx=> ?_) N (by omega)
 ·have b:=hb i hi
  simp only[Q56_B1,ilt_eq,Int.ofNat_lt,hi,decide_true,cond_true,Zb hi,chk_true',Int.toNat_natCast,Zam (n:=gd l i 0) (by omega) (by omega),Option.bind_some,Z0]
  rw[Zf (Zn (n:=i+1) (b:=16) (by omega) (by omega)),Zc (show i<4611686018427387904 by omega),List.range_succ,List.map_append,List.map_cons,List.map_nil]
 ·simp only[Q56_B1,Q56_K1,ilt_eq,Int.lt_irrefl,decide_false,cond_false]
  rw[ZaV (k:=6) (by omega) (by omega) (fun i hi=>ZG (hb i hi).1 (hb i hi).2)]
  rfl
theorem ZiE {N:Nat} {a b c d:Int} (ha:0≤a∧a<1000000) (hb:0≤b∧b<1000000) (hc:0≤c∧c<1000000) (hd:0≤d∧d<1000000) (hN:4194304≤N):Q56 N [a,b,c,d] ⟨#[47]⟩=some (txt (numT a++[47]++numT b++[47]++numT c++[47]++numT d),()):=by
 have h:=ZfA (N:=N) (l:=[a,b,c,d]) (by simp) (fun i hi=>by
  match i,hi with
  | 0,_=>exact ha
  | 1,_=>exact hb
  | 2,_=>exact hc
  | 3,_=>exact hd
  | n+4,h=>simp at h;omega) 47 hN
 have g0:gd [a,b,c,d] 0 0=a:=rfl
 have g1:gd [a,b,c,d] 1 0=b:=rfl
 have g2:gd [a,b,c,d] 2 0=c:=rfl
 have g3:gd [a,b,c,d] 3 0=d:=rfl
 have e:wordsT 47 (fun i=>numT (gd [a,b,c,d] i 0)) 4=numT a++[47]++numT b++[47]++numT c++[47]++numT d:=by
  rw[wordsT_succ 47 _ (show 0<3 by omega),wordsT_succ 47 _ (show 0<2 by omega),wordsT_succ 47 _ (show 0<1 by omega),ZbD]
  simp only[g0,g1,g2,g3]
 rw[show [a,b,c,d].length=4 from rfl,e] at h
 exact h
theorem ZfB {N:Nat} {c:Cs} (hc:CaseP c) (hN:4194304≤N):Q53 N c=some (txt (textC c),()):=by
 have h8:=hc.n
 have l1:=hc.l1;have l2:=hc.l2;have l3:=hc.l3
 simp only[Q53,len_eq]
 refine Q53_L1_run N (fun _=>c.1) (fun _=>(c.1.length:Int)) (fun t=>(t:Int)) (fun _=>c) (fun t=>(List.range t).map fun i=>txt (wordC c i)) c.1.length (fun t ht kx=> ?_) (fun kx=> ?_) N (by omega)
 ·obtain ⟨a,b,d,e⟩:=hc.at ht
  simp only[Q53_B1,ilt_eq,Int.ofNat_lt,ht,decide_true,cond_true,Zb ht,Zb (show t<c.2.1.length by omega),Zb (show t<c.2.2.1.length by omega),Zb (show t<c.2.2.2.length by omega),chk_true',Int.toNat_natCast]
  rw[ZiE (by omega) (by omega) (by omega) (by omega) hN,Option.bind_some,Zf (Zn (by rw[Z0];omega) (by omega)),Zc (show t<4611686018427387904 by omega),List.range_succ,List.map_append,List.map_cons,List.map_nil]
  rfl
 ·simp only[Q53_B1,Q53_K1,ilt_eq,Int.lt_irrefl,decide_false,cond_false,ieq_eq,len_eq,Z0,show (⟨#[32]⟩:ByteArray)=txt [32] from rfl,textC]
  by_cases h:c.1.length=0
  ·simp only[h,Int.natCast_eq_zero,decide_true,cond_true,if_true];rfl
  ·rw[decide_eq_false (show ¬(c.1.length:Int)=0 by omega),cond_false,if_neg h,ZaV (k:=40) (by omega) (by omega) (fun i hi=>ZgP hc hi)]
   rfl
theorem Zg4 {N:Nat} {c:Cs} (hc:CaseP c) (hN:4194304≤N):Q158 N c=some (txt (textC c),()):=by
 have h8:=hc.n
 have l1:=hc.l1;have l2:=hc.l2;have l3:=hc.l3
 simp only[Q158,show (⟨#[]⟩:ByteArray)=txt [] from rfl]
 refine Q158_L1_run N (fun t=>txt (wordsT 32 (wordC c) t)) (fun t=>(t:Int)) (fun _=>c) c.1.length (fun t ht kx=> ?_) (fun kx=> ?_) N (by omega)
 ·obtain ⟨a,b,d,e⟩:=hc.at ht
  have h1:=ZG (k:=gd c.1 t 0) (by omega) (by omega)
  have h2:=ZG (k:=gd c.2.1 t 0) (by omega) (by omega)
  have h3:=ZG (k:=gd c.2.2.1 t 0) (by omega) (by omega)
  have h4:=ZG (k:=gd c.2.2.2 t 0) (by omega) (by omega)
  have lw:=Za6 32 (wordC c) (k:=40) t (fun i hi=>ZgP hc (by omega))
  have lw2:t*(40+1)≤8*41:=Nat.mul_le_mul (by omega) (Nat.le_refl _)
  have hK:∀s:List UInt8,s.length≤1000→Q158_K1 N kx (txt s) (t:Int) c=kx (txt (s++wordC c t)) ((t+1:Nat):Int) c:=fun s hs=>by
   simp only[Q158_K1,Zb ht,Zb (show t<c.2.1.length by omega),Zb (show t<c.2.2.1.length by omega),Zb (show t<c.2.2.2.length by omega),chk_true',Int.toNat_natCast,Zy (n:=gd c.1 t 0) (by omega) (by omega) hN,Zy (n:=gd c.2.1 t 0) (by omega) (by omega) hN,Zy (n:=gd c.2.2.1 t 0) (by omega) (by omega) hN,Zy (n:=gd c.2.2.2 t 0) (by omega) (by omega) hN,Option.bind_some,show (⟨#[47]⟩:ByteArray)=txt [47] from rfl,Zap]
   have sf:∀x y:List UInt8,x.length≤2000→y.length≤2000→sfit (txt x) (txt y)=true:=fun x y hx hy=>ZJ (by rw[Ze,Ze,Zg,Zg];omega)
   rw[sf _ _ (by omega) (by omega),chk_true',sf _ _ (by simp;omega) (by simp),chk_true',sf _ _ (by simp;omega) (by omega),chk_true',sf _ _ (by simp;omega) (by simp),chk_true',sf _ _ (by simp;omega) (by omega),chk_true',sf _ _ (by simp;omega) (by simp),chk_true',sf _ _ (by simp;omega) (by omega),chk_true',Zc (show t<4611686018427387904 by omega)]
   simp only[wordC,List.append_assoc]
  simp only[Q158_B1,ilt_eq,len_eq,Int.ofNat_lt,ht,decide_true,cond_true,show (⟨#[32]⟩:ByteArray)=txt [32] from rfl]
  by_cases h0:t=0
  ·subst h0
   simp only[show ¬(0:Int)<((0:Nat):Int) by omega,decide_false,cond_false]
   rw[hK _ (by simp [ZaJ]),ZaJ,Nat.zero_add,ZbD];rfl
  ·simp only[show (0:Int)<(t:Int) by omega,decide_true,cond_true,Zap]
   rw[ZJ (by rw[Ze,Ze,Zg,Zg];simp;omega),chk_true',hK _ (by simp;omega),wordsT_succ 32 _ (show 0<t by omega)]
 ·simp only[Q158_B1,Q158_K2,ilt_eq,len_eq,Int.lt_irrefl,decide_false,cond_false,ieq_eq,textC,show (⟨#[110,111,110,101]⟩:ByteArray)=txt [110,111,110,101] from rfl]
  by_cases h:c.1.length=0
  ·rw[decide_eq_true (show (c.1.length:Int)=0 by omega),if_pos h];rfl
  ·rw[decide_eq_false (show ¬(c.1.length:Int)=0 by omega),if_neg h];rfl
def ctxP (c:Cs):ByteArray×Bool:=bif caseB c then (txt (textC c),true) else (⟨#[]⟩,false)
theorem ZfC {N:Nat} {c:Cs} (hs:SmC c) (hN:4194304≤N):Q7 N c=some (ctxP c,()):=by
 simp only[Q7,ZH hs hN,Option.bind_some,Zu,ctxP]
 cases hb:caseB c with
 | false=>rfl
 | true=>simp only[cond_true,ZfB (ZB.1 hb) hN,Option.bind_some]
theorem ZhP (c b:UInt8) (l:List UInt8):Lib.index (b::l) [c]=if b=c then 0 else if Lib.index l [c]= -1 then -1 else Lib.index l [c]+1:=by
 rw[Lib.index]
 by_cases h:b=c
 ·subst h;simp [List.isPrefixOf]
 ·have hp:([c]:List UInt8).isPrefixOf (b::l)=false:=by simp [List.isPrefixOf,Ne.symm h]
  rw[hp,if_neg h]
  simp
theorem Zlo (c:UInt8):∀(l a:List UInt8),Lib.index l [c]= -1→spl c a l=[a++l]
 | [],a,_=>by simp [spl]
 | b::l,a,h=>by
  rw[ZhP] at h
  by_cases hb:b=c
  ·rw[if_pos hb] at h;omega
  ·rw[if_neg hb] at h
   have hge:=Lib.index_ge l [c]
   by_cases h2:Lib.index l [c]= -1
   ·rw[spl,if_neg hb,Zlo c l _ h2];simp
   ·rw[if_neg h2] at h;omega
theorem Znk (c:UInt8):∀(l a:List UInt8) (j:Nat),Lib.index l [c]=(j:Nat)→spl c a l=(a++l.take j)::spl c [] (l.drop (j+1))
 | [],a,j,h=>by simp [Lib.index] at h
 | b::l,a,j,h=>by
  rw[ZhP] at h
  by_cases hb:b=c
  ·rw[if_pos hb] at h
   obtain rfl:j=0:=by omega
   rw[spl,if_pos hb];simp
  ·rw[if_neg hb] at h
   have hge:=Lib.index_ge l [c]
   by_cases h2:Lib.index l [c]= -1
   ·rw[if_pos h2] at h;omega
   ·rw[if_neg h2] at h
    obtain ⟨i,rfl⟩:∃i,j=i+1:=⟨j - 1,by omega⟩
    rw[spl,if_neg hb,Znk c l _ i (by omega)];simp
theorem ZhQ (c:UInt8):∀(k:Nat) (l:List UInt8),Lib.count l [c]=k→Lib.splitK [c] 0 k l=spl c [] l
 | 0,l,h=>by
  have hge:=Lib.index_ge l [c]
  by_cases h2:Lib.index l [c]= -1
  ·rw[Zlo c l [] h2];rfl
  ·have:=Lib.count_hit (s:=l) (sub:=[c]) (i:=(Lib.index l [c]).toNat) (by simp) (by omega)
   omega
 | k+1,l,h=>by
  have hge:=Lib.index_ge l [c]
  by_cases h2:Lib.index l [c]= -1
  ·rw[Lib.count_miss h2] at h;omega
  ·obtain ⟨i,hi⟩:∃i:Nat,Lib.index l [c]=i:=⟨(Lib.index l [c]).toNat,by omega⟩
   have h3:=Lib.count_hit (s:=l) (sub:=[c]) (i:=i) (by simp) hi
   rw[Lib.splitK,if_neg (by simpa using h2),hi,Znk c l [] i hi,Int.toNat_natCast,Nat.add_zero,List.nil_append,List.length_singleton,ZhQ c k _ (by simp at h3;omega)]
theorem ZcO {N:Nat} {l:List UInt8} {c:UInt8} (h:l.length<4294967281):strings_Split N (txt l) (txt [c])=some ((spl c [] l).map txt,()):=by
 have h1:(decide ((txt l).size<4294967281) && decide (1≤(txt [c]).size))=true:=by
  simp only[Bool.and_eq_true,decide_eq_true_eq]
  exact ⟨h,Nat.le_refl 1⟩
 have h2:(Lib.splitB (txt [c]) 0 (Lib.countB (txt l) (txt [c])) (txt l)).map (·.data.toList)=spl c [] l:=by
  rw[Lib.splitB_data]
  exact ZhQ c _ l rfl
 have h3:∀xs:List ByteArray,(xs.map (·.data.toList)).map txt=xs:=fun xs=>by
  rw[List.map_map]
  conv=>rhs;rw[←List.map_id xs]
  exact List.map_congr_left fun x _=>Ze6 rfl
 simp only[strings_Split,h1,chk_true']
 rw[←h3 (Lib.splitB (txt [c]) 0 (Lib.countB (txt l) (txt [c])) (txt l)),h2]
theorem Zfo (b:UInt8):∀(l:List UInt8) (acc n d:Nat),Lib.decFrom acc l=some n→Lib.digitVal b=some d→Lib.decFrom acc (l++[b])=some (n*10+d)
 | [],acc,n,d,h,hd=>by
  simp only[Lib.decFrom,Option.some.injEq] at h
  subst h
  simp [Lib.decFrom,hd]
 | a::l,acc,n,d,h,hd=>by
  simp only[List.cons_append,Lib.decFrom] at h ⊢
  cases ha:Lib.digitVal a with
  | none=>rw[ha] at h;cases h
  | some e=>rw[ha] at h;exact Zfo b l _ n d h hd
theorem Zlp {d:Nat} (h:d<10):Lib.digitVal (UInt8.ofNat (48+d))=some d:=by
 have e:(UInt8.ofNat (48+d)).toNat=48+d:=by rw[UInt8.toNat_ofNat'];omega
 unfold Lib.digitVal
 rw[e,if_pos (by omega)]
 congr 1;omega
theorem ZgQ (u:Nat):Lib.decFrom 0 (Lib.decDigits u)=some u:=by
 induction u using Nat.strongRecOn with
 | _ u ih=>
  rw[Lib.decDigits]
  by_cases hu:u<10
  ·rw[dif_pos hu]
   simp only[Lib.decFrom,Zlp hu]
   congr 1;omega
  ·rw[dif_neg hu]
   rw[Zfo _ _ _ _ _ (ih (u / 10) (by omega)) (Zlp (Nat.mod_lt _ (by omega)))]
   congr 1;omega
theorem Zlq {k:Int} (h0:0≤k):Lib.atoi (numT k)=some k:=by
 obtain ⟨u,rfl⟩:∃u:Nat,k=(u:Int):=⟨k.toNat,by omega⟩
 have hm:=ZcH (k:=(u:Int)) h0
 have hd:=ZgQ u
 rw[ZcF] at hm ⊢
 cases hl:Lib.decDigits u with
 | nil=>rw[Lib.decDigits] at hl;split at hl<;>simp at hl
 | cons b r=>
  rw[hl] at hm hd
  have hb:=hm b (by simp)
  have n1:(b==45)=false:=by simp;rintro rfl;simp at hb
  have n2:(b==43)=false:=by simp;rintro rfl;simp at hb
  simp only[Lib.atoi,n1,n2,Bool.false_eq_true,if_false,Lib.decNat,List.isEmpty_cons,hd,Option.map_some]
def atV (s:ByteArray):Int:=(Lib.atoi s.data.toList).getD 0
def piB (s:ByteArray):Bool:=decide (s.size≤7) && ((Lib.atoi s.data.toList).isSome && (inRg (-999999) 999999 (atV s) && decide (txt (numT (atV s))=s)))
theorem ZfD (N:Nat) (s:ByteArray):Q42 N s=some (bif piB s then (atV s,true) else (0,false),()):=by
 simp only[Q42,ilt_eq,slen,piB]
 by_cases h:s.size≤7
 ·simp only[show ¬(7:Int)<(s.size:Int) by omega,decide_false,cond_false,strconv_Atoi,decide_eq_true (show s.size≤18 by omega),chk_true',Option.bind_some,Zu,decide_eq_true h,Bool.true_and]
  cases h1:(Lib.atoi s.data.toList).isSome with
  | false=>rfl
  | true=>
   simp only[cond_true,Zw,Option.bind_some,Bool.true_and]
   rw[show (Lib.atoi s.data.toList).getD 0=atV s from rfl]
   cases h2:inRg (-999999) 999999 (atV s) with
   | false=>rfl
   | true=>
    have h3:=h2
    simp only[inRg,Bool.and_eq_true,decide_eq_true_eq] at h3
    simp only[cond_true,Zam (n:=atV s) (by omega) (by omega),Option.bind_some,Zb6,Bool.true_and]
    cases decide (txt (numT (atV s))=s)<;>rfl
 ·simp only[show (7:Int)<(s.size:Int) by omega,h,decide_true,decide_false,cond_true,Bool.false_and,cond_false]
theorem ZpY {k:Int} (h0:0≤k) (h1:k<1000000):atV (txt (numT k))=k∧piB (txt (numT k))=true:=by
 have e:atV (txt (numT k))=k:=by
  unfold atV
  rw[show (txt (numT k)).data.toList=numT k from rfl,Zlq h0];rfl
 refine ⟨e, ?_⟩
 have hl:=ZG h0 h1
 simp only[piB,e,inRg,show (txt (numT k)).data.toList=numT k from rfl,Zlq h0,Option.isSome_some,Bool.and_eq_true,decide_eq_true_eq,true_and,and_true]
 exact ⟨by show (numT k).length≤7;omega,by omega,by omega⟩
def wsOf (c:UInt8) (s:ByteArray):List ByteArray:=(spl c [] (bts s)).map txt
theorem Zlr (c:UInt8) (s:ByteArray):(wsOf c s).length≤s.size+1:=by
 unfold wsOf
 rw[List.length_map,Ze]
 exact Zm4 c _ _
theorem Zog {N:Nat} {s:ByteArray} {c:UInt8} (h:s.size<100000):strings_Split N s (txt [c])=some (wsOf c s,()):=by
 have:=ZcO (N:=N) (l:=bts s) (c:=c) (by rw[←Ze];omega)
 rw[Zkf] at this
 exact this
def dgB (s:ByteArray) (i:Nat):Bool:=decide (48≤chr s i) && decide (chr s i≤57)
def dv (s:ByteArray):Nat→Int
 | 0=>0
 | i+1=>10*dv s i+((chr s i:Int) - 48)
theorem Zoh {s:ByteArray}:∀n,(∀i,i<n→dgB s i=true)→0≤dv s n∧dv s n<10 ^ n
 | 0,_=>⟨Int.le_refl _,by simp [dv]⟩
 | n+1,h=>by
  obtain ⟨h1,h2⟩:=Zoh n (fun i hi=>h i (by omega))
  have h3:=h n (by omega)
  simp only[dgB,Bool.and_eq_true,decide_eq_true_eq] at h3
  have e:(10:Int) ^ (n+1)=10 ^ n*10:=Int.pow_succ 10 n
  simp only[dv]
  omega
theorem pow6 {i:Nat} (h:i≤6):(10:Int) ^ i≤1000000:=by
 have h1:10 ^ i≤10 ^ 6:=Nat.pow_le_pow_right (by omega) h
 have h2:((10 ^ i:Nat):Int)=(10:Int) ^ i:=by simp
 omega
theorem Zoi {x:Nat} (h1:48≤x) (h2:x≤57):icv .i64 (isub .u8 (x:Int) 48)=(x:Int) - 48:=by
 have e:isub .u8 (x:Int) 48=((x - 48:Nat):Int):=by
  simp [isub,IntKind.wrap,IntKind.bits,IntKind.signed]
  omega
 rw[e,ZgH _ (by omega)];omega
def sgB (s:ByteArray):Bool:=decide (1<s.size) && decide (chr s 0=45)
def magT (s:ByteArray):ByteArray:=bif sgB s then scut s 1 (slen s) else s
def rdV (s:ByteArray):Int:=bif decide ((magT s).size<s.size) then 0 - dv (magT s) (magT s).size else dv (magT s) (magT s).size
def rdB (s:ByteArray):Bool:=(decide (1≤(magT s).size) && decide ((magT s).size≤6)) && ((List.range (magT s).size).all (dgB (magT s)) && decide (txt (numT (rdV s))=s))
theorem Za7 {N:Nat} {s t:ByteArray} (hN:4194304≤N):Q141_K2 N s t=some (bif (decide (1≤t.size) && decide (t.size≤6)) && ((List.range t.size).all (dgB t) && decide (txt (numT (bif decide (t.size<s.size) then 0 - dv t t.size else dv t t.size))=s)) then (bif decide (t.size<s.size) then 0 - dv t t.size else dv t t.size,true) else (0,false),()):=by
 simp only[Q141_K2,ZF,Option.bind_some,Zu,slen,inRg]
 by_cases h0:1≤t.size∧t.size≤6
 ·simp only[show (1:Int)≤(t.size:Int) by omega,show (t.size:Int)≤6 by omega,h0.1,h0.2,decide_true,Bool.and_self,cond_true,Bool.true_and]
  have step:∀i,i<t.size→(∀q,q<i→dgB t q=true)→∀kx,Q141_B1 N kx s t (dv t i) (i:Nat)=bif dgB t i then kx s t (dv t (i+1)) ((i+1:Nat):Int) else some ((0,false),()):=fun i hi hq kx=>by
   obtain ⟨b1,b2⟩:=Zoh i hq
   have b3:=pow6 (i:=i) (by omega)
   simp only[Q141_B1,ilt_eq,slen,Int.ofNat_lt,hi,decide_true,cond_true,Zb hi,chk_true',Zal,dgB]
   by_cases c1:48≤chr t i
   ·by_cases c2:chr t i≤57
    ·rw[decide_eq_true c1,decide_eq_true c2,decide_eq_false (show ¬((chr t i:Nat):Int)<48 by omega),decide_eq_false (show ¬(57:Int)<((chr t i:Nat):Int) by omega)]
     simp only[cond_false,Bool.and_self,cond_true]
     rw[Zoi c1 c2,ZX (by omega) (by omega),Zh (by omega) (by omega),Zc (show i<4611686018427387904 by omega)]
     rfl
    ·rw[decide_eq_true c1,decide_eq_false c2,decide_eq_false (show ¬((chr t i:Nat):Int)<48 by omega),decide_eq_true (show (57:Int)<((chr t i:Nat):Int) by omega)]
     rfl
   ·rw[decide_eq_false c1,decide_eq_true (show ((chr t i:Nat):Int)<48 by omega)]
    rfl
  rcases Zd0 (dgB t) t.size with ⟨h1,h2⟩ | ⟨h1,j,h2,h4,h5⟩
  ·rw[h1]
   obtain ⟨b1,b2⟩:=Zoh t.size h2
   have b3:=pow6 h0.2
   refine Q141_L1_run N (fun _=>s) (fun _=>t) (fun i=>dv t i) (fun i=>(i:Int)) t.size (fun i hi kx=>by rw[step i hi (fun q hq=>h2 q (by omega)),h2 i hi];rfl) (fun kx=> ?_) N (by omega)
   simp only[Q141_B1,Q141_K1,ilt_eq,slen,Int.lt_irrefl,decide_false,cond_false,Int.ofNat_lt,Bool.true_and,Zx (show -9223372036854775808≤0 - dv t t.size by omega) (by omega)]
   by_cases c:t.size<s.size
   ·simp only[c,decide_true,cond_true,Zy (n:=0 - dv t t.size) (by omega) (by omega) hN,Option.bind_some,Zb6,Zu]
    cases decide (txt (numT (0 - dv t t.size))=s)<;>rfl
   ·simp only[c,decide_false,cond_false,Zy (n:=dv t t.size) (by omega) (by omega) hN,Option.bind_some,Zb6,Zu]
    cases decide (txt (numT (dv t t.size))=s)<;>rfl
  ·rw[h1]
   exact Q141_L1_run N (fun _=>s) (fun _=>t) (fun i=>dv t i) (fun i=>(i:Int)) j (fun i hi kx=>by rw[step i (by omega) (fun q hq=>h4 q (by omega)),h4 i hi];rfl) (fun kx=>by rw[step j h2 h4,h5];rfl) N (by omega)
 ·have e:(decide ((1:Int)≤(t.size:Int)) && decide ((t.size:Int)≤6))=false:=by
   simp only[Bool.and_eq_false_iff,decide_eq_false_iff_not];omega
  have e2:(decide (1≤t.size) && decide (t.size≤6))=false:=by
   simp only[Bool.and_eq_false_iff,decide_eq_false_iff_not];omega
  simp only[e,e2,cond_false,Bool.false_and]
theorem Zg5 {N:Nat} (s:ByteArray) (hN:4194304≤N):Q141 N s=some (bif rdB s then (rdV s,true) else (0,false),()):=by
 simp only[Q141,ilt_eq,slen,rdB,rdV,magT,sgB]
 by_cases h:1<s.size
 ·have h0:sbyte s 0=((chr s 0:Nat):Int):=Zal s 0
  have hi:inB (0:Int) s.size=true:=Zc7 (by omega) (by omega)
  simp only[show (1:Int)<(s.size:Int) by omega,h,decide_true,cond_true,hi,chk_true',h0,ieq_eq,Q141_K3,Bool.true_and,slen]
  by_cases c:chr s 0=45
  ·rw[decide_eq_true (show ((chr s 0:Nat):Int)=45 by omega),decide_eq_true c]
   simp only[cond_true,Zf (ZM (l:=1) (h:=(s.size:Int)) (n:=s.size) (by omega) (by omega) (by omega))]
   exact Za7 hN
  ·rw[decide_eq_false (show ¬((chr s 0:Nat):Int)=45 by omega),decide_eq_false c]
   simp only[cond_false]
   exact Za7 hN
 ·simp only[show ¬(1:Int)<(s.size:Int) by omega,h,decide_false,cond_false,Q141_K3,Bool.false_and]
  exact Za7 hN
theorem Zd5 (l:List UInt8) {i:Nat} (h:i<l.length):chr (txt l) i=(l[i]'h).toNat:=by
 have:=Ze7 (txt l) i h
 rw[Zg,List.getElem?_eq_getElem h,Option.some.injEq] at this
 unfold chr
 rw[←this]
theorem Znl (l m:List UInt8):∀n,n≤l.length→dv (txt (l++m)) n=dv (txt l) n
 | 0,_=>rfl
 | n+1,h=>by
  simp only[dv]
  rw[Znl l m n (by omega),Zd5 l (show n<l.length by omega),Zd5 (l++m) (show n<(l++m).length by rw[List.length_append];omega),List.getElem_append_left (show n<l.length by omega)]
theorem ZoD (u:Nat):dv (txt (Lib.decDigits u)) (Lib.decDigits u).length=u:=by
 have key:∀d:Nat,d<10→(UInt8.ofNat (48+d)).toNat=48+d:=fun d hd=>by
  rw[UInt8.toNat_ofNat'];omega
 induction u using Nat.strongRecOn with
 | _ u ih=>
  rw[Lib.decDigits]
  by_cases hu:u<10
  ·rw[dif_pos hu]
   simp only[List.length_singleton,dv,Zd5 [UInt8.ofNat (48+u)] (i:=0) (by simp),List.getElem_cons_zero,key u hu]
   omega
  ·rw[dif_neg hu,List.length_append,List.length_singleton]
   simp only[dv]
   rw[Znl _ _ _ (Nat.le_refl _),ih (u / 10) (by omega),Zd5 _ (show (Lib.decDigits (u / 10)).length<(Lib.decDigits (u / 10)++[UInt8.ofNat (48+u % 10)]).length by simp),List.getElem_append_right (Nat.le_refl _)]
   simp only[Nat.sub_self,List.getElem_cons_zero,key (u % 10) (Nat.mod_lt _ (by omega))]
   omega
theorem ZpZ {k:Int} (h0:0≤k) (h1:k<1000000):rdV (txt (numT k))=k∧rdB (txt (numT k))=true:=by
 have hl:=ZG h0 h1
 have hm:=ZcH h0
 have hdg:∀i,i<(numT k).length→dgB (txt (numT k)) i=true:=fun i hi=>by
  have:=hm _ (List.getElem_mem hi)
  simp only[dgB,Zd5 _ hi,Bool.and_eq_true,decide_eq_true_eq]
  exact this
 have hpos:0<(numT k).length:=by
  obtain ⟨u,rfl⟩:∃u:Nat,k=(u:Int):=⟨k.toNat,by omega⟩
  rw[ZcF,Lib.decDigits];split<;>simp
 have hsg:sgB (txt (numT k))=false:=by
  have:=hdg 0 hpos
  simp only[dgB,Bool.and_eq_true,decide_eq_true_eq] at this
  simp only[sgB,Bool.and_eq_false_iff,decide_eq_false_iff_not]
  omega
 have hmag:magT (txt (numT k))=txt (numT k):=by rw[magT,hsg];rfl
 have e:rdV (txt (numT k))=k:=by
  unfold rdV
  rw[hmag,decide_eq_false (Nat.lt_irrefl _),cond_false]
  obtain ⟨u,rfl⟩:∃u:Nat,k=(u:Int):=⟨k.toNat,by omega⟩
  rw[ZcF]
  exact ZoD u
 refine ⟨e, ?_⟩
 have hsz:(txt (numT k)).size=(numT k).length:=rfl
 simp only[rdB,hmag,e,hsz,Bool.and_eq_true,decide_eq_true_eq,and_true]
 exact ⟨⟨by omega,by omega⟩,Zbo.2 hdg⟩
theorem Zls {N:Nat} {s:ByteArray} (c:UInt8) (h:s.size<1000000) (hN:4194304≤N):Q143 N s (c.toNat:Int)=some (wsOf c s,()):=by
 have:=ZaU (N:=N) (l:=bts s) (c:=c) (by rw[←Ze];omega) hN
 rw[Zkf] at this
 exact this
theorem Zbn {c:Cs} (hc:CaseP c):SmC c:=by
 have a0:=hc.n;have a1:=hc.l1;have a2:=hc.l2;have a3:=hc.l3
 exact ⟨by omega,by omega,by omega,by omega⟩
theorem Zcl {N:Nat} {n:Int} (h: -999999≤n∧n≤999999):Q28 N n=some ((txt (numT n),true),()):=by
 have e:inRg (-999999) 999999 n=true:=by simp only[inRg,Bool.and_eq_true,decide_eq_true_eq];exact h
 simp only[Q28,Zw,e,Option.bind_some,Bool.not_true,cond_false,Zam (n:=n) (by omega) (by omega)]
theorem Zg6 {N:Nat} {n:Int} (h: -999999≤n∧n≤999999):Q62 N n true=some ((txt (numT n),true),()):=by
 simp only[Q62,Bool.not_true,cond_false,Zcl h,Option.bind_some]
theorem Zg7 (N:Nat) (n:Int):Q62 N n false=some ((⟨#[]⟩,false),()):=rfl
def wordsOf (l:List Int):ByteArray:=if l.length=0 then ⟨#[110,111,110,101]⟩ else txt (wordsT 32 (fun i=>numT (gd l i 0)) l.length)
theorem ZjI {N:Nat} {l:List Int} (hl:l.length≤100) (hb:∀i,i<l.length→0≤gd l i 0∧gd l i 0≤999999) (hN:4194304≤N):Q61 N l true=some ((wordsOf l,true),()):=by
 simp only[Q61,Bool.not_true,cond_false,len_eq]
 refine Q61_L1_run N (fun _=>l) (fun _=>(l.length:Int)) (fun i=>(i:Int)) (fun i=>(List.range i).map fun i=>txt (numT (gd l i 0))) l.length (fun i hi kx=> ?_) (fun kx=> ?_) N (by omega)
 ·have b:=hb i hi
  simp only[Q61_B1,ilt_eq,Int.ofNat_lt,hi,decide_true,cond_true,Zb hi,chk_true',Int.toNat_natCast,Zcl (n:=gd l i 0) ⟨by omega,b.2⟩,Option.bind_some,Z0,Bool.not_true,cond_false]
  rw[Zf (Zn (n:=i+1) (b:=16) (by omega) (by omega)),Zc (show i<4611686018427387904 by omega),List.range_succ,List.map_append,List.map_cons,List.map_nil]
 ·simp only[Q61_B1,Q61_K1,ilt_eq,Int.lt_irrefl,decide_false,cond_false,ieq_eq,len_eq,Z0,wordsOf,show (⟨#[32]⟩:ByteArray)=txt [32] from rfl]
  by_cases h:l.length=0
  ·rw[decide_eq_true (show (l.length:Int)=0 by omega),if_pos h];rfl
  ·rw[decide_eq_false (show ¬(l.length:Int)=0 by omega),cond_false,if_neg h,ZaV (k:=6) (by omega) (by omega) (fun i hi=>ZG (hb i hi).1 (by have:=(hb i hi).2;omega))]
   rfl
abbrev Con:Type:=Lg×Lo
theorem ZjJ {n:Int} (h: -999999≤n∧n≤999999):(txt (numT n)).size<100000:=by
 have:=ZhO (n:=n) (by omega) (by omega)
 show (numT n).length<100000
 omega
theorem Zfp {l:List Int} (hl:l.length≤100) (hb:∀i,i<l.length→0≤gd l i 0∧gd l i 0≤999999):(wordsOf l).size<100000:=by
 unfold wordsOf
 by_cases h:l.length=0
 ·rw[if_pos h];decide
 ·rw[if_neg h]
  have h1:=Za6 32 (fun i=>numT (gd l i 0)) (k:=6) l.length (fun i hi=>ZG (hb i hi).1 (by have:=(hb i hi).2;omega))
  have h2:l.length*(6+1)≤100*7:=Nat.mul_le_mul hl (Nat.le_refl _)
  show (wordsT 32 (fun i=>numT (gd l i 0)) l.length).length<100000
  omega
theorem Zoj {l:Lg} (hb:ledB l=true): -999999≤(aheadOf l).1∧(aheadOf l).1≤999999:=by
 have hl:=(ZR.1 hb).1
 have hn:=hl.n
 have h8:=hl.c.n
 have hw:=hl.now
 unfold aheadOf
 rw[hb,cond_true]
 cases ilt 0 (len (shortsL l)) with
 | true=>show -999999≤(0:Int)∧(0:Int)≤999999;omega
 | false=>
  have h:=Zbl (f:=fun k=>pcost l.1 l.2.1 (l.2.2.toNat+k)) (lo:= -20000) (hi:=20000) (n:=l.2.1.length - l.2.2.toNat) (fun i hi=>ZfN hl (by omega))
  show -999999≤rsum (fun k=>pcost l.1 l.2.1 (l.2.2.toNat+k)) (l.2.1.length - l.2.2.toNat)∧rsum (fun k=>pcost l.1 l.2.1 (l.2.2.toNat+k)) (l.2.1.length - l.2.2.toNat)≤999999
  omega
theorem ZlX (u:Nat):Lib.decNat (Lib.decDigits u)=some u:=by
 have hd:=ZgQ u
 cases hl:Lib.decDigits u with
 | nil=>rw[Lib.decDigits] at hl;split at hl<;>simp at hl
 | cons b r=>rw[hl] at hd;simp only[Lib.decNat,List.isEmpty_cons,Bool.false_eq_true,if_false,hd]
theorem ZbZ {u:Nat} (h:1≤u):numT (-(u:Int))=45::Lib.decDigits u:=by unfold numT;exact Lib.itoa_neg u h
theorem Zlt {u:Nat} (h:1≤u):Lib.atoi (numT (-(u:Int)))=some (-(u:Int)):=by
 rw[ZbZ h]
 simp only[Lib.atoi,ZlX,BEq.rfl,if_true,Option.map_some]
theorem Zp0 {u:Nat} (h:1≤u) (h1:u<1000000):atV (txt (numT (-(u:Int))))= -(u:Int)∧piB (txt (numT (-(u:Int))))=true:=by
 have e:atV (txt (numT (-(u:Int))))= -(u:Int):=by
  unfold atV
  rw[show (txt (numT (-(u:Int)))).data.toList=numT (-(u:Int)) from rfl,Zlt h];rfl
 refine ⟨e, ?_⟩
 have hl:=ZgJ u 5 (by omega)
 have hz:(txt (numT (-(u:Int)))).size=(Lib.decDigits u).length+1:=by
  show (numT (-(u:Int))).length=_
  rw[ZbZ h];rfl
 simp only[piB,e,hz,inRg,show (txt (numT (-(u:Int)))).data.toList=numT (-(u:Int)) from rfl,Zlt h,Option.isSome_some,Bool.and_eq_true,decide_eq_true_eq,true_and,and_true]
 omega
theorem Zp1 {u:Nat} (h:1≤u) (h1:u<1000000):rdV (txt (numT (-(u:Int))))= -(u:Int)∧rdB (txt (numT (-(u:Int))))=true:=by
 have hl:=ZgJ u 5 (by omega)
 have hpos:0<(Lib.decDigits u).length:=by rw[Lib.decDigits];split<;>simp
 have hm:=ZgK u
 have hdg:∀i,i<(Lib.decDigits u).length→dgB (txt (Lib.decDigits u)) i=true:=fun i hi=>by
  have:=hm _ (List.getElem_mem hi)
  simp only[dgB,Zd5 _ hi,Bool.and_eq_true,decide_eq_true_eq]
  exact this
 have hz:(txt (numT (-(u:Int)))).size=(Lib.decDigits u).length+1:=by
  show (numT (-(u:Int))).length=_
  rw[ZbZ h];rfl
 have hc:chr (txt (numT (-(u:Int)))) 0=45:=by
  rw[ZbZ h,Zd5 _ (show 0<(45::Lib.decDigits u).length by simp)];rfl
 have hsg:sgB (txt (numT (-(u:Int))))=true:=by
  simp only[sgB,hz,hc,Bool.and_eq_true,decide_eq_true_eq,and_true];omega
 have hmag:magT (txt (numT (-(u:Int))))=txt (Lib.decDigits u):=by
  rw[magT,hsg,cond_true]
  have:=Zm3 (txt (numT (-(u:Int)))) 1
  rw[Zg,ZbZ h] at this
  rw[ZbZ h]
  exact this
 have e:rdV (txt (numT (-(u:Int))))= -(u:Int):=by
  unfold rdV
  rw[hmag,hz,decide_eq_true (show (txt (Lib.decDigits u)).size<(Lib.decDigits u).length+1 from Nat.lt_succ_self _),cond_true]
  show 0 - dv (txt (Lib.decDigits u)) (Lib.decDigits u).length=_
  rw[ZoD];omega
 refine ⟨e, ?_⟩
 have hsz:(txt (Lib.decDigits u)).size=(Lib.decDigits u).length:=rfl
 simp only[rdB,hmag,e,hsz,Bool.and_eq_true,decide_eq_true_eq,and_true]
 exact ⟨⟨by omega,by omega⟩,Zbo.2 hdg⟩
theorem ZoE {k:Int} (h: -999999≤k∧k≤999999):(atV (txt (numT k))=k∧piB (txt (numT k))=true)∧(rdV (txt (numT k))=k∧rdB (txt (numT k))=true):=by
 rcases Int.lt_or_le k 0 with h0 | h0
 ·obtain ⟨u,rfl⟩:∃u:Nat,k= -(u:Int):=⟨k.natAbs,by omega⟩
  exact ⟨Zp0 (by omega) (by omega),Zp1 (by omega) (by omega)⟩
 ·exact ⟨ZpY h0 (by omega),ZpZ h0 (by omega)⟩
theorem Zpp {s:ByteArray} (h:piB s=true):s=txt (numT (atV s))∧ -999999≤atV s∧atV s≤999999:=by
 simp only[piB,inRg,Bool.and_eq_true,decide_eq_true_eq] at h
 exact ⟨h.2.2.2.symm,h.2.2.1.1,h.2.2.1.2⟩
theorem Zpq {s:ByteArray} (h:rdB s=true):s=txt (numT (rdV s))∧ -999999≤rdV s∧rdV s≤999999:=by
 simp only[rdB,Bool.and_eq_true,decide_eq_true_eq] at h
 obtain ⟨⟨h1,h2⟩,h3,h4⟩:=h
 have hb:=Zoh (s:=magT s) (magT s).size (Zbo.1 h3)
 have hp:=pow6 h2
 refine ⟨h4.symm, ?_⟩
 unfold rdV
 cases decide ((magT s).size<s.size)<;>simp only[cond_true,cond_false]<;>omega
theorem Znm (s:ByteArray):piB s=rdB s∧(piB s=true→atV s=rdV s):=by
 cases hp:piB s with
 | true=>
  obtain ⟨e,b⟩:=Zpp hp
  obtain ⟨_,r1,r2⟩:=ZoE b
  rw[←e] at r1 r2
  exact ⟨r2.symm,fun _=>r1.symm⟩
 | false=>
  cases hr:rdB s with
  | false=>exact ⟨rfl,fun h=>by cases h⟩
  | true=>
   obtain ⟨e,b⟩:=Zpq hr
   obtain ⟨⟨_,p2⟩,_⟩:=ZoE b
   rw[←e,hp] at p2
   cases p2
abbrev NumL (l:List Int):Prop:=l.length≤100∧∀i,i<l.length→0≤gd l i 0∧gd l i 0≤999999
abbrev NumN (n:Int):Prop:= -999999≤n∧n≤999999
theorem iNum {N:Nat} {n:Int} {ok:Bool} (h:ok=true→NumN n):Q62 N n ok=some ((bif ok then txt (numT n) else ⟨#[]⟩,ok),()):=by
 cases ok with
 | false=>exact Zg7 N n
 | true=>exact Zg6 (h rfl)
theorem Zok {N:Nat} {l:List Int} {ok:Bool} (h:ok=true→NumL l) (hN:4194304≤N):Q61 N l ok=some ((bif ok then wordsOf l else ⟨#[]⟩,ok),()):=by
 cases ok with
 | false=>rfl
 | true=>exact ZjI (h rfl).1 (h rfl).2 hN
theorem ZiF (S:Nat→Bool) {n:Nat} (h:n≤100):NumL (pns S n):=
 ⟨by have:=ZhL S n;omega,fun i hi=>by have:=Zoy hi;omega⟩
theorem ZeI {l:Lg} (hb:ledB l=true):NumL l.2.1:=by
 have hl:=(ZR.1 hb).1
 have h8:=hl.c.n
 have hn:=hl.n
 exact ⟨by omega,fun i hi=>by have:=hl.b i hi;omega⟩
theorem Znn {l:Lg} (hb:ledB l=true):NumL (leftL l):=by
 have hl:=(ZR.1 hb).1
 have h8:=hl.c.n
 have hn:=hl.n
 have hw:=hl.now
 have h0:=Zew hb
 refine ⟨by rw[Zcj hb];omega,fun i hi=> ?_⟩
 rw[Zcj hb] at hi
 have h1:=Zda hl (a:=l.2.2.toNat) (by omega) h0 i (by omega)
 have h2:=hl.c.b0 (l.2.2.toNat+i) (by omega)
 have h3:=ZcA (x:=leftSt l l.2.2.toNat i) (y:=gd l.1.1 (l.2.2.toNat+i) 0)
 have e:gd (leftL l) i 0=gd l.1.1 (l.2.2.toNat+i) 0 - imin (leftSt l l.2.2.toNat i) (gd l.1.1 (l.2.2.toNat+i) 0):=by
  simp only[leftL,leftTo]
  rw[ZpT _ (by omega)]
 rw[e];omega
theorem Zdv {l:Lg} (hb:ledB l=true):NumL (shortsL l):=by
 have hl:=(ZR.1 hb).1
 have h8:=hl.c.n
 have hn:=hl.n
 have hw:=hl.now
 have hlen:=ZbV l l.2.2.toNat (l.2.1.length - l.2.2.toNat)
 refine ⟨by show (shortsTo l _ _).length≤100;omega,fun i hi=> ?_⟩
 have hm:gd (shortsL l) i 0∈shortsL l:=by
  rw[gd,List.getD_eq_getElem?_getD,List.getElem?_eq_getElem hi];exact List.getElem_mem hi
 simp only[shortsL,shortsTo,List.mem_map,List.mem_filter,List.mem_range] at hm
 obtain ⟨k,⟨h1,_⟩,h2⟩:=hm
 show 0≤gd (shortsL l) i 0∧gd (shortsL l) i 0≤999999
 simp only[shortsL,shortsTo] at h2 ⊢
 rw[←h2];omega
theorem Zpr {c:Cs} (hc:CaseP c):NumL (fwL c c.1.length):=by
 have h8:=hc.n
 refine ⟨by rw[Zb4];omega,fun i hi=> ?_⟩
 rw[Zb4] at hi
 rw[ZbP c c.1.length (show i≤c.1.length by omega)]
 have:=Zip hc i i (Nat.le_refl _) (by omega)
 omega
theorem Zps {c:Cs} (hc:CaseP c):NumL (prL c c.1.length):=by
 have h8:=hc.n
 refine ⟨by rw[Zb5];omega,fun i hi=> ?_⟩
 rw[Zb5] at hi
 rw[Zk6 c c.1.length hi]
 have:=ZoA hc hi
 omega
theorem Zol {N:Nat} {c:Cs} (hs:SmC c) (rule:Int) (hN:4194304≤N):∃z:Int×Bool,Q43 N c rule=some (z,())∧Q104 N c rule=some (z,())∧(z.2=true→NumN z.1):=by
 simp only[Q43,Q104,ZH hs hN,ZN hs hN,Option.bind_some,Zu,Zw,ZF]
 cases h:caseB c with
 | false=>exact ⟨(0,false),rfl,rfl,fun h=>by cases h⟩
 | true=>
  have hc:=ZB.1 h
  obtain ⟨T,t1,t2,t3⟩:=Zju hc rule hN
  have hl:(bwL c).length=c.1.length+1:=Zar c _
  cases hr:inRg 1 3 rule with
  | false=>exact ⟨(0,false),rfl,rfl,fun h=>by cases h⟩
  | true=>
   have h1:=ZmQ (ZdZ hc T)
   have h2:=Zk4 hc
   have h3:=Zn4 hc
   have h4:bw c 0=gd (bwL c) 0 0:=rfl
   refine ⟨(isub .i64 (costOf c (planS T c.1)) (gd (bwL c) 0 0),true), ?_, ?_,fun _=> ?_⟩
   ·simp only[cond_true,t2,Option.bind_some,Zad hc T hN,t1,Zch (ZdZ hc T) hN,Zbh hc hN,Zf (Zc7 (i:=0) (n:=(bwL c).length) (by omega) (by omega))]
   ·simp only[cond_true,t3,Option.bind_some,Zbe hc T hN,Zb1 (ZdZ hc T) hN,ZbW hc hN,Zf (Zc7 (i:=0) (n:=(bwL c).length) (by omega) (by omega))]
   ·show NumN (isub .i64 (costOf c (planS T c.1)) (gd (bwL c) 0 0))
    rw[Zx (by omega) (by omega)]
    show -999999≤_∧_≤999999
    omega
theorem ZlY {N:Nat} {c:Cs} (hs:SmC c) (rule:Int) (hN:4194304≤N):∃z:List Int×Bool,Q44 N c rule=some (z,())∧Q105 N c rule=some (z,())∧NumL z.1:=by
 simp only[Q44,Q105,ZH hs hN,ZN hs hN,Option.bind_some,Zu,Zw,ZF]
 cases h:caseB c with
 | false=>exact ⟨([],false),rfl,rfl,by simp,fun i hi=>by simp at hi⟩
 | true=>
  have hc:=ZB.1 h
  have h8:=hc.n
  obtain ⟨T,t1,t2,t3⟩:=Zju hc rule hN
  cases hr:inRg 1 3 rule with
  | false=>exact ⟨([],false),rfl,rfl,by simp,fun i hi=>by simp at hi⟩
  | true=>exact ⟨(pns T c.1.length,true),by simp only[cond_true,t2,Option.bind_some],by simp only[cond_true,t3,Option.bind_some],ZiF T (by omega)⟩
theorem Zkp {l:Lg} (hb:ledB l=true):NumN (rsum (fun k=>pcost l.1 l.2.1 (0+k)) (l.2.2.toNat - 0)):=by
 have hl:=(ZR.1 hb).1
 have hn:=hl.n
 have h8:=hl.c.n
 have hw:=hl.now
 have h:=Zbl (f:=fun k=>pcost l.1 l.2.1 (0+k)) (lo:= -20000) (hi:=20000) (n:=l.2.2.toNat - 0) (fun i hi=>ZfN hl (by omega))
 show -999999≤rsum _ _∧rsum _ _≤999999
 omega
theorem Zpt {n:Int}:numT n≠[]:=by
 intro h
 rcases Int.lt_or_le n 0 with h0 | h0
 ·obtain ⟨u,rfl⟩:∃u:Nat,n= -(u:Int):=⟨n.natAbs,by omega⟩
  rw[ZbZ (by omega)] at h
  cases h
 ·obtain ⟨u,rfl⟩:∃u:Nat,n=(u:Int):=⟨n.toNat,by omega⟩
  rw[ZcF,Lib.decDigits] at h
  split at h<;>simp at h
theorem Zno (f:Nat→List UInt8) (hf:∀i,f i≠[]) {n:Nat} (h:0<n):wordsT 32 f n≠[]:=by
 intro he
 rcases Nat.lt_or_ge 1 n with h1 | h1
 ·obtain ⟨m,rfl⟩:∃m,n=m+1:=⟨n - 1,by omega⟩
  rw[wordsT_succ 32 f (by omega)] at he
  simp at he
 ·obtain rfl:n=1:=by omega
  rw[ZbD] at he
  exact hf 0 he
theorem Zf0 {N:Nat} {l:List Int} (h:NumL l) (hN:4194304≤N):Q123 N l=some (wordsOf l,()):=by
 obtain ⟨hl,hb⟩:=h
 simp only[Q123,show (⟨#[]⟩:ByteArray)=txt [] from rfl]
 refine Q123_L1_run N (fun _=>l) (fun t=>txt (wordsT 32 (fun i=>numT (gd l i 0)) t)) (fun t=>(t:Int)) l.length (fun t ht kx=> ?_) (fun kx=> ?_) N (by omega)
 ·have b:=hb t ht
  have h1:=ZG (k:=gd l t 0) (by omega) (by omega)
  have lw:=Za6 32 (fun i=>numT (gd l i 0)) (k:=6) t (fun i hi=>ZG (hb i (by omega)).1 (by have:=(hb i (by omega)).2;omega))
  have lw2:t*(6+1)≤100*7:=Nat.mul_le_mul (by omega) (Nat.le_refl _)
  have sf:∀x y:List UInt8,x.length≤2000→y.length≤2000→sfit (txt x) (txt y)=true:=fun x y hx hy=>ZJ (by rw[Ze,Ze,Zg,Zg];omega)
  simp only[Q123_B1,ilt_eq,len_eq,Int.ofNat_lt,ht,decide_true,cond_true,Zb ht,chk_true',Int.toNat_natCast,Zy (n:=gd l t 0) (by omega) (by omega) hN,Option.bind_some,show (⟨#[32]⟩:ByteArray)=txt [32] from rfl,Zap,Zc (show t<4611686018427387904 by omega)]
  by_cases h0:t=0
  ·subst h0
   simp only[show ¬(0:Int)<((0:Nat):Int) by omega,decide_false,cond_false]
   rw[sf _ _ (by simp [ZaJ]) (by omega),chk_true',ZaJ,Nat.zero_add,ZbD];rfl
  ·simp only[show (0:Int)<(t:Int) by omega,decide_true,cond_true]
   rw[sf _ _ (by omega) (by simp),chk_true',sf _ _ (by simp;omega) (by omega),chk_true',wordsT_succ 32 _ (show 0<t by omega)]
 ·simp only[Q123_B1,Q123_K1,ilt_eq,len_eq,Int.lt_irrefl,decide_false,cond_false,Zb6,wordsOf]
  by_cases h:l.length=0
  ·rw[if_pos h,h,ZaJ];rfl
  ·rw[if_neg h,decide_eq_false (fun he=>Zno (fun i=>numT (gd l i 0)) (fun i=>Zpt) (show 0<l.length by omega) (by have:=congrArg bts he;exact this))];rfl
theorem sSay {N:Nat} {n:Int} {ok:Bool} (h:ok=true→NumN n) (hN:4194304≤N):Q130 N n ok=some (bif ok then txt (numT n) else ⟨#[63]⟩,()):=by
 cases ok with
 | false=>rfl
 | true=>
  have b:=h rfl
  simp only[Q130,Bool.not_true,cond_false,cond_true,Zy (n:=n) (by omega) (by omega) hN,Option.bind_some]
theorem Zqg {N:Nat} {l:List Int} {ok:Bool} (h:ok=true→NumL l) (hN:4194304≤N):Q120 N l ok=some (bif ok then wordsOf l else ⟨#[63]⟩,()):=by
 cases ok with
 | false=>rfl
 | true=>simp only[Q120,Bool.not_true,cond_false,cond_true,Zf0 (h rfl) hN,Option.bind_some]
def Same (x:Option ((ByteArray×Bool)×Unit)) (y:Option (ByteArray×Unit)):Prop:=∃rep ok,x=some ((rep,ok),())∧y=some (bif ok then rep else ⟨#[63]⟩,())∧rep.size<100000
theorem Zf1 {N:Nat} {n:Int} {ok:Bool} (h:ok=true→NumN n) (hN:4194304≤N):Same ((Q62 N n ok).bind fun r=>some ((r.1.1,r.1.2),())) ((Q130 N n ok).bind fun r=>some (r.1,())):=by
 rw[iNum h,sSay h hN]
 cases ok with
 | false=>exact ⟨⟨#[]⟩,false,rfl,rfl,by decide⟩
 | true=>exact ⟨_,_,rfl,rfl,ZjJ (h rfl)⟩
theorem ZiG {N:Nat} {n:Int} (h:NumN n) (hN:4194304≤N):Same ((Q62 N n true).bind fun r=>some ((r.1.1,r.1.2),())) ((Q139 N n).bind fun r=>some (r.1,())):=by
 have b:=h
 rw[iNum fun _=>h,Zy (n:=n) (by omega) (by omega) hN]
 exact ⟨_,_,rfl,rfl,ZjJ h⟩
theorem Zdg {N:Nat} {l:List Int} {ok:Bool} (h:ok=true→NumL l) (hN:4194304≤N):Same ((Q61 N l ok).bind fun r=>some ((r.1.1,r.1.2),())) ((Q120 N l ok).bind fun r=>some (r.1,())):=by
 rw[Zok h hN,Zqg h hN]
 cases ok with
 | false=>exact ⟨⟨#[]⟩,false,rfl,rfl,by decide⟩
 | true=>exact ⟨_,_,rfl,rfl,Zfp (h rfl).1 (h rfl).2⟩
theorem ZgR {N:Nat} {l:List Int} (h:NumL l) (hN:4194304≤N):Same ((Q61 N l true).bind fun r=>some ((r.1.1,r.1.2),())) ((Q123 N l).bind fun r=>some (r.1,())):=by
 rw[Zok (fun _=>h) hN,Zf0 h hN]
 exact ⟨_,_,rfl,rfl,Zfp h.1 h.2⟩
theorem Znp {N:Nat} {l:Lg} (hs:SmL l) (hb:ledB l=true) (w:ByteArray) (hN:4194304≤N):Same (Q52_K1 N w [] l) (Q133 N l w):=by
 have hl:=(ZR.1 hb).1
 have hc:=hl.c
 have hn:=hl.n
 have h8:=hc.n
 have hw:=hl.now
 have hcb:=ZB.2 hc
 have eS:Q132 N l l.2.2=some (stockAt l.2.1 l.1.1 l.2.2.toNat,()):=by
  have:=ZT hl (t:=l.2.2.toNat) (by omega) hN
  rwa [show ((l.2.2.toNat:Nat):Int)=l.2.2 by omega] at this
 have eC:Q111 N l 0 l.2.2=some (rsum (fun k=>pcost l.1 l.2.1 (0+k)) (l.2.2.toNat - 0),()):=by
  have:=Zc8 hl (a:=0) (b:=l.2.2.toNat) (by omega) hN
  rwa [show ((l.2.2.toNat:Nat):Int)=l.2.2 by omega] at this
 have bS:=ZbC hl (t:=l.2.2.toNat) (by omega)
 simp only[Q52_K1,Q133,ilt_eq,len_eq,List.length_nil,show ¬(0:Int)<((0:Nat):Int) by omega,decide_false,cond_false]
 cases Go.Rx.seq w ⟨#[110,111,119]⟩ with
 | true=>exact ZiG ⟨by omega,by omega⟩ hN
 | false=>
 cases Go.Rx.seq w ⟨#[115,116,111,99,107]⟩ with
 | true=>
  simp only[cond_true,cond_false,ZcJ hs hN,hb,eS,Option.bind_some]
  exact ZiG ⟨by omega,by omega⟩ hN
 | false=>
 cases Go.Rx.seq w ⟨#[99,111,115,116]⟩ with
 | true=>
  simp only[cond_true,cond_false,Zgq hs hN,hb,eC,Option.bind_some]
  exact ZiG (Zkp hb) hN
 | false=>
 cases Go.Rx.seq w ⟨#[97,104,101,97,100]⟩ with
 | true=>
  simp only[cond_true,cond_false,ZeZ hs hN,ZeY hs hN,Option.bind_some]
  exact Zf1 (fun _=>Zoj hb) hN
 | false=>
 cases Go.Rx.seq w ⟨#[115,104,111,114,116]⟩ with
 | true=>
  simp only[cond_true,cond_false,Zbq hs hN,shortOf,hb,Zbm hl hN,Option.bind_some]
  exact ZgR (Zdv hb) hN
 | false=>
 cases Go.Rx.seq w ⟨#[108,101,102,116]⟩ with
 | true=>
  simp only[cond_true,cond_false,Ze1 hs hN,needsOf,hb,Zdc hb hN,Option.bind_some]
  exact ZgR (Znn hb) hN
 | false=>
 cases Go.Rx.seq w ⟨#[112,108,97,110]⟩ with
 | true=>exact ZgR (ZeI hb) hN
 | false=>
 cases Go.Rx.seq w ⟨#[99,97,115,101]⟩ with
 | true=>
  simp only[cond_true,cond_false,ZfC (Zbn hc) hN,ctxP,hcb,Zg4 hc hN,Option.bind_some]
  exact ⟨_,_,rfl,rfl,by have:=Znj hc;show (textC l.1).length<100000;omega⟩
 | false=>
 cases Go.Rx.seq w ⟨#[98,101,115,116]⟩ with
 | true=>
  have b1:=Zk4 hc
  simp only[cond_true,cond_false,Zfu (Zbn hc) hN,Zfv (Zbn hc) hN,bcOf,hcb,Option.bind_some]
  exact Zf1 (fun _=>⟨by omega,by omega⟩) hN
 | false=>
 cases Go.Rx.seq w ⟨#[116,97,98,108,101]⟩ with
 | true=>
  simp only[cond_true,cond_false,Zdy (Zbn hc) hN,Zdz (Zbn hc) hN,fwP,hcb,Option.bind_some]
  exact Zdg (fun _=>Zpr hc) hN
 | false=>
 cases Go.Rx.seq w ⟨#[116,117,114,110,115]⟩ with
 | true=>
  simp only[cond_true,cond_false,ZcP (Zbn hc) hN,ZcQ (Zbn hc) hN,turnP,hcb,Option.bind_some]
  exact Zdg (fun _=>ZiF _ (by omega)) hN
 | false=>
 cases Go.Rx.seq w ⟨#[104,111,114,105,122,111,110,115]⟩ with
 | true=>
  simp only[cond_true,cond_false,ZeA (Zbn hc) hN,ZeB (Zbn hc) hN,horP,hcb,Option.bind_some]
  exact Zdg (fun _=>ZiF _ (by omega)) hN
 | false=>
 cases Go.Rx.seq w ⟨#[112,114,105,99,101,115]⟩ with
 | true=>
  simp only[cond_true,cond_false,ZeC (Zbn hc) hN,ZeD (Zbn hc) hN,priceP,hcb,Option.bind_some]
  exact Zdg (fun _=>Zps hc) hN
 | false=>exact ⟨⟨#[]⟩,false,rfl,rfl,by decide⟩
theorem Zom {N:Nat} {l:Lg} (hb:ledB l=true) (w:ByteArray) (k:Int) (hN:4194304≤N):Same (Q52 N l w [k]) (Q124 N l w k):=by
 have hl:=(ZR.1 hb).1
 have hc:=hl.c
 have hcb:=ZB.2 hc
 have sc:=Zbn hc
 have g:gd [k] 0 0=k:=rfl
 simp only[Q52,Q124,ieq_eq,len_eq,List.length_singleton,show ((1:Nat):Int)=1 by omega,decide_true,cond_true,show inB 0 1=true from rfl,chk_true',g]
 cases Go.Rx.seq w ⟨#[114,117,108,101]⟩ with
 | true=>
  obtain ⟨z,z1,z2,z3⟩:=ZlY sc k hN
  simp only[cond_true,z1,z2,Option.bind_some]
  exact Zdg (fun _=>z3) hN
 | false=>
 cases Go.Rx.seq w ⟨#[103,97,112]⟩ with
 | true=>
  obtain ⟨z,z1,z2,z3⟩:=Zol sc k hN
  simp only[cond_true,cond_false,z1,z2,Option.bind_some]
  exact Zf1 z3 hN
 | false=>
 cases Go.Rx.seq w ⟨#[102,114,101,115,104]⟩ with
 | true=>
  simp only[cond_true,cond_false,Q116,Zfa sc k hN,Zfb sc k hN,Option.bind_some]
  obtain ⟨rep,ok,h1,h2,h3⟩:=Zf1 (N:=N) (n:=(bfOf l.1 k).2.1) (ok:=(bfOf l.1 k).2.2) (fun h=>by
   unfold bfOf at h ⊢
   rw[hcb] at h ⊢
   cases hr:inRg 1 8 k with
   | false=>rw[hr] at h;cases h
   | true=>
    have b2:=ZpX hc (L:=k.toNat) (ZiD hr).2.1
    show -999999≤fbV l.1 k.toNat∧fbV l.1 k.toNat≤999999
    omega) hN
  exact ⟨rep,ok,h1,by rw[h2];rfl,h3⟩
 | false=>
  refine ⟨⟨#[]⟩,false, ?_,rfl,by decide⟩
  simp only[cond_false,Q52_K1,ilt_eq,len_eq,List.length_singleton,show (0:Int)<((1:Nat):Int) by omega,decide_true,cond_true]
theorem ZlZ {N:Nat} {l:Lg} (w:ByteArray) {ns:List Int} (h:2≤ns.length):Q52 N l w ns=some ((⟨#[]⟩,false),()):=by
 simp only[Q52,Q52_K1,ieq_eq,ilt_eq,len_eq,decide_eq_false (show ¬(ns.length:Int)=1 by omega),decide_eq_true (show (0:Int)<(ns.length:Int) by omega),cond_false,cond_true]
theorem Zl0 {N:Nat} {l:Lg} (w:ByteArray):Q52 N l w []=Q52_K1 N w [] l:=by
 simp only[Q52,ieq_eq,len_eq,List.length_nil,show ¬((0:Nat):Int)=1 by omega,decide_false,cond_false]
def RepP (r:ByteArray):Prop:=r.size≤200∧∀b∈bts r,b.toNat=32∨(45≤b.toNat∧b.toNat≤57)∨(97≤b.toNat∧b.toNat≤122)
theorem Zlu {n:Int}:∀b∈numT n,b.toNat=32∨(45≤b.toNat∧b.toNat≤57)∨(97≤b.toNat∧b.toNat≤122):=by
 intro b hm
 rcases Int.lt_or_le n 0 with h0 | h0
 ·obtain ⟨u,rfl⟩:∃u:Nat,n= -(u:Int):=⟨n.natAbs,by omega⟩
  rw[ZbZ (by omega)] at hm
  rcases List.mem_cons.1 hm with rfl | hm
  ·exact .inr (.inl ⟨by decide,by decide⟩)
  ·have:=ZgK u b hm;omega
 ·have:=ZcH h0 b hm;omega
theorem ZhR (f:Nat→List UInt8) (p:UInt8→Prop) (hp:p 32) (hf:∀i,∀b∈f i,p b):∀n,∀b∈wordsT 32 f n,p b
 | 0,b,h=>by rw[ZaJ] at h;cases h
 | n+1,b,h=>by
  by_cases hn:n=0
  ·subst hn;rw[ZbD] at h;exact hf 0 b h
  ·rw[wordsT_succ 32 f (by omega)] at h
   simp only[List.mem_append,List.mem_singleton] at h
   rcases h with (h | h) | h
   ·exact ZhR f p hp hf n b h
   ·rw[h];exact hp
   ·exact hf n b h
theorem Znq {n:Int} (h:NumN n):RepP (txt (numT n)):=
 ⟨by have:=ZhO (n:=n) (by omega) (by omega);show (numT n).length≤200;omega,Zlu⟩
theorem ZjK {l:List Int} (h:NumL l) (h9:l.length≤20):RepP (wordsOf l):=by
 unfold wordsOf
 by_cases h0:l.length=0
 ·rw[if_pos h0]
  exact ⟨by decide,fun b hb=>by
   have:b∈([110,111,110,101]:List UInt8):=hb
   simp only[List.mem_cons,List.not_mem_nil,or_false] at this
   rcases this with rfl | rfl | rfl | rfl<;>exact .inr (.inr ⟨by decide,by decide⟩)⟩
 ·rw[if_neg h0]
  refine ⟨?_,ZhR _ (fun b=>b.toNat=32∨(45≤b.toNat∧b.toNat≤57)∨(97≤b.toNat∧b.toNat≤122)) (.inl rfl) (fun i=>Zlu) _⟩
  have h1:=Za6 32 (fun i=>numT (gd l i 0)) (k:=6) l.length (fun i hi=>ZG (h.2 i hi).1 (by have:=(h.2 i hi).2;omega))
  have h2:l.length*(6+1)≤20*7:=Nat.mul_le_mul h9 (Nat.le_refl _)
  show (wordsT 32 (fun i=>numT (gd l i 0)) l.length).length≤200
  omega
noncomputable def actTail (N:Nat) (l:Lg) (a:Ac):Option ((Lg×ByteArray)×Unit):=
 (Q2 N l a).bind fun r3=>
  bif r3.1.2 then
   (Q50 N r3.1.1 a.1).bind fun r4=>
   bif r4.1.2 then some ((r3.1.1,r4.1.1),()) else some ((l,(⟨#[63]⟩:ByteArray)),())
  else some ((l,(⟨#[63]⟩:ByteArray)),())
def SameL (l:Lg) (x y:Option ((Lg×ByteArray)×Unit)):Prop:=∃l' r,x=some ((l',r),())∧y=some ((l',r),())∧ledB l'=true∧SmL l'∧r.size<100000∧(l'=l∨RepP r)
theorem Zon {N:Nat} {l:Lg} (hs:SmL l) (hb:ledB l=true) (a:Ac) (hN:4194304≤N):SameL l (actTail N l a) (Q114 N l a):=by
 simp only[actTail,Q114,Ze4 hs a hN,Zit hb a hN,Option.bind_some]
 cases h2:(actP l a).2 with
 | false=>exact ⟨l,⟨#[63]⟩,rfl,rfl,hb,hs,by decide, .inl rfl⟩
 | true=>
  have hb':=Zn5 h2
  have hs':=Zpb (l:=l) a
  generalize (actP l a).1=m at hb' hs' ⊢
  have hl:=(ZR.1 hb').1
  have hn:=hl.n
  have h8:=hl.c.n
  have hw:=hl.now
  have eS:Q132 N m m.2.2=some (stockAt m.2.1 m.1.1 m.2.2.toNat,()):=by
   have:=ZT hl (t:=m.2.2.toNat) (by omega) hN
   rwa [show ((m.2.2.toNat:Nat):Int)=m.2.2 by omega] at this
  have bS:=ZbC hl (t:=m.2.2.toNat) (by omega)
  have hsh:(shortsL m).length≤20:=by
   have:=ZbV m m.2.2.toNat (m.2.1.length - m.2.2.toNat)
   show (shortsTo m _ _).length≤20;omega
  have fin:∀r,RepP r→SameL l (some ((m,r),())) (some ((m,r),())):=fun r hr=>⟨m,r,rfl,rfl,hb',hs',by have:=hr.1;omega, .inr hr⟩
  simp only[Bool.not_true,cond_false,cond_true,Q50,ieq_eq,len_eq]
  cases decide (a.1=1) with
  | true=>
   simp only[cond_true,iNum (N:=N) (n:=(m.2.1.length:Int)) (ok:=true) (fun _=>⟨by omega,by omega⟩),Zy (n:=(m.2.1.length:Int)) (by omega) (by omega) hN,Option.bind_some]
   exact fin _ (Znq ⟨by omega,by omega⟩)
  | false=>
  cases decide (a.1=4) with
  | true=>
   simp only[cond_true,cond_false,ZcJ hs' hN,hb',eS,iNum (N:=N) (n:=stockAt m.2.1 m.1.1 m.2.2.toNat) (ok:=true) (fun _=>⟨by omega,by omega⟩),Zy (n:=stockAt m.2.1 m.1.1 m.2.2.toNat) (by omega) (by omega) hN,Option.bind_some]
   exact fin _ (Znq ⟨by omega,by omega⟩)
  | false=>
  cases decide (a.1=5) with
  | true=>
   simp only[cond_true,cond_false,Zok (N:=N) (l:=m.2.1) (ok:=true) (fun _=>ZeI hb') hN,Zf0 (ZeI hb') hN,Option.bind_some]
   exact fin _ (ZjK (ZeI hb') (by omega))
  | false=>
   simp only[cond_true,cond_false,Zbq hs' hN,shortOf,hb',Zbm hl hN,Option.bind_some]
   rw[show shortsTo m m.2.2.toNat (m.2.1.length - m.2.2.toNat)=shortsL m from rfl,Zok (N:=N) (l:=shortsL m) (ok:=true) (fun _=>Zdv hb') hN,Zf0 (Zdv hb') hN]
   exact fin _ (ZjK (Zdv hb') hsh)
theorem ZhS (c:UInt8):∀(l a:List UInt8),(spl c a l).length=1→spl c a l=[a++l]
 | [],a,_=>by simp [spl]
 | b::l,a,h=>by
  rw[spl] at h ⊢
  split at h
  ·rw[List.length_cons] at h
   have:=Zd3 c l []
   omega
  ·rename_i hb
   rw[if_neg hb,ZhS c l _ h];simp
theorem ZoF (s:ByteArray):0<(wsOf 32 s).length:=by
 unfold wsOf;rw[List.length_map];exact Zd3 32 _ _
theorem Znr {s:ByteArray} (h:(wsOf 32 s).length=1):wsOf 32 s=[s]:=by
 unfold wsOf at h ⊢
 rw[List.length_map] at h
 rw[ZhS 32 _ _ h];rfl
def nsOf (ws:List ByteArray) (n:Nat):List Int:=(List.range n).map fun i=>atV (gd ws (i+1) ⟨#[]⟩)
def nsB (ws:List ByteArray):Bool:=(List.range (ws.length - 1)).all fun i=>piB (gd ws (i+1) ⟨#[]⟩)
theorem ZiH (ws:List ByteArray) (n:Nat):(nsOf ws n).length=n:=by simp [nsOf]
abbrev noLg:Lg:=(([],([],([],[]))),([],0))
theorem Zkq {N:Nat} {l:Lg} {s:ByteArray} (hz:s.size≤1000) (hN:4194304≤N):Q57 N l s=bif nsB (wsOf 32 s) then Q57_K1 N (wsOf 32 s) l noLg (nsOf (wsOf 32 s) ((wsOf 32 s).length - 1)) else some ((l,⟨#[63]⟩),()):=by
 have hl:=Zlr 32 s
 have hp:=ZoF s
 simp only[Q57,show (⟨#[32]⟩:ByteArray)=txt [32] from rfl,Zog (N:=N) (s:=s) (c:=32) (by omega),Option.bind_some]
 generalize wsOf 32 s=ws at hl hp ⊢
 have ht:List.take ((len ws).toNat - 1) (List.drop 1 ws)=List.drop 1 ws:=by
  rw[len_eq,Int.toNat_natCast];exact List.take_of_length_le (by rw[List.length_drop];omega)
 have hg:∀i,gd (List.drop 1 ws) i (⟨#[]⟩:ByteArray)=gd ws (i+1) ⟨#[]⟩:=fun i=>by simp only[gd,List.getD_eq_getElem?_getD,List.getElem?_drop,Nat.add_comm 1 i]
 rw[ht,len_eq,Int.toNat_natCast,Zf (ZM (by omega) (by omega) (by omega))]
 have step:∀i,i<ws.length - 1→∀kx,Q57_B1 N kx ws (List.drop 1 ws) ((ws.length - 1:Nat):Int) (i:Nat) l noLg (nsOf ws i)=bif piB (gd ws (i+1) ⟨#[]⟩) then kx ws (List.drop 1 ws) ((ws.length - 1:Nat):Int) ((i+1:Nat):Int) l noLg (nsOf ws (i+1)) else some ((l,⟨#[63]⟩),()):=fun i hi kx=>by
  simp only[Q57_B1,ilt_eq,Int.ofNat_lt,hi,decide_true,cond_true,Zb (show i<(List.drop 1 ws).length by rw[List.length_drop];omega),chk_true',Int.toNat_natCast,hg,ZfD,Option.bind_some,Zu]
  cases piB (gd ws (i+1) ⟨#[]⟩) with
  | false=>rfl
  | true=>
   simp only[cond_true]
   rw[Zf (Zn (by rw[ZiH];omega) (by omega)),Zc (show i<4611686018427387904 by omega),nsOf,nsOf,List.range_succ,List.map_append,List.map_cons,List.map_nil]
 rcases Zd0 (fun i=>piB (gd ws (i+1) ⟨#[]⟩)) (ws.length - 1) with ⟨h1,h2⟩ | ⟨h1,j,h2,h4,h5⟩
 ·rw[show nsB ws=true from h1]
  refine Q57_L1_run N (fun _=>ws) (fun _=>List.drop 1 ws) (fun _=>((ws.length - 1:Nat):Int)) (fun i=>(i:Int)) (fun _=>l) (fun _=>noLg) (fun i=>nsOf ws i) (ws.length - 1) (fun i hi kx=>by rw[step i hi,h2 i hi];rfl) (fun kx=> ?_) N (by omega)
  simp only[Q57_B1,ilt_eq,Int.lt_irrefl,decide_false,cond_false,cond_true]
 ·rw[show nsB ws=false from h1]
  exact Q57_L1_run N (fun _=>ws) (fun _=>List.drop 1 ws) (fun _=>((ws.length - 1:Nat):Int)) (fun i=>(i:Int)) (fun _=>l) (fun _=>noLg) (fun i=>nsOf ws i) j (fun i hi kx=>by rw[step i (by omega),h4 i hi];rfl) (fun kx=>by rw[step j h2,h5];rfl) N (by omega)
theorem Zl1 {N:Nat} {ws:List ByteArray} (hl:ws.length≤2000) (hN:4194304≤N):Q128 N ws=some (bif nsB ws then (nsOf ws (ws.length - 1),true) else ([],false),()):=by
 simp only[Q128]
 have step:∀i,i<ws.length - 1→∀kx,Q128_B1 N kx ws ((i+1:Nat):Int) (nsOf ws i)=bif piB (gd ws (i+1) ⟨#[]⟩) then kx ws ((i+1+1:Nat):Int) (nsOf ws (i+1)) else some (([],false),()):=fun i hi kx=>by
  obtain ⟨e1,e2⟩:=Znm (gd ws (i+1) ⟨#[]⟩)
  simp only[Q128_B1,ilt_eq,len_eq,Int.ofNat_lt,show i+1<ws.length by omega,decide_true,cond_true,Zb (show i+1<ws.length by omega),chk_true',Int.toNat_natCast,Zg5 _ hN,Option.bind_some,Zu,←e1]
  cases hp:piB (gd ws (i+1) ⟨#[]⟩) with
  | false=>rfl
  | true=>
   simp only[cond_true]
   rw[Zf (Zn (by rw[ZiH];omega) (by omega)),Zc (show i+1<4611686018427387904 by omega),←e2 hp,nsOf,nsOf,List.range_succ,List.map_append,List.map_cons,List.map_nil]
 rcases Zd0 (fun i=>piB (gd ws (i+1) ⟨#[]⟩)) (ws.length - 1) with ⟨h1,h2⟩ | ⟨h1,j,h2,h4,h5⟩
 ·rw[show nsB ws=true from h1]
  refine Q128_L1_run N (fun _=>ws) (fun i=>((i+1:Nat):Int)) (fun i=>nsOf ws i) (ws.length - 1) (fun i hi kx=>by rw[step i hi,h2 i hi];rfl) (fun kx=> ?_) N (by omega)
  simp only[Q128_B1,Q128_K1,ilt_eq,len_eq,Int.ofNat_lt,show ¬ws.length - 1+1<ws.length by omega,decide_false,cond_false,cond_true]
 ·rw[show nsB ws=false from h1]
  exact Q128_L1_run N (fun _=>ws) (fun i=>((i+1:Nat):Int)) (fun i=>nsOf ws i) j (fun i hi kx=>by rw[step i (by omega),h4 i hi];rfl) (fun kx=>by rw[step j h2,h5];rfl) N (by omega)
noncomputable def kTail (N:Nat) (l:Lg) (w:ByteArray) (ns:List Int):Option ((Lg×ByteArray)×Unit):=
 bif (actOfV w ns).2 then actTail N l (actOfV w ns).1 else (Q52 N l w ns).bind fun r5=>bif !r5.1.2 then some ((l,(⟨#[63]⟩:ByteArray)),()) else some ((l,r5.1.1),())
theorem Zns {N:Nat} {l:Lg} {ws:List ByteArray} {ns:List Int} (h:0<ws.length) (hn:ns.length≤1000):Q57_K1 N ws l noLg ns=kTail N l (gd ws 0 ⟨#[]⟩) ns:=by
 simp only[Q57_K1,impl_actOf,decide_eq_true (show ns.length≤1000000 by omega),chk_true',Zf (Zc7 (i:=0) (n:=ws.length) (by omega) (by omega)),Option.bind_some,kTail,actTail]
theorem Znt {N:Nat} {l:Lg} {w:ByteArray} {ns:List Int} {y:Option (ByteArray×Unit)} (hs:SmL l) (hb:ledB l=true) (h:(actOfV w ns).2=false) (hy:Same (Q52 N l w ns) y):SameL l (kTail N l w ns) (y.bind fun r=>some ((l,r.1),())):=by
 obtain ⟨rep,ok,e1,e2,e3⟩:=hy
 simp only[kTail,h,cond_false,e1,e2,Option.bind_some]
 cases ok with
 | false=>exact ⟨l,_,rfl,rfl,hb,hs,by decide, .inl rfl⟩
 | true=>exact ⟨l,_,rfl,rfl,hb,hs,e3, .inl rfl⟩
theorem Zdw {N:Nat} {l:Lg} {w:ByteArray} {ns:List Int} {a:Ac} (hs:SmL l) (hb:ledB l=true) (hN:4194304≤N) (h:actOfV w ns=(a,true)):SameL l (kTail N l w ns) (Q114 N l a):=by
 simp only[kTail,h,cond_true]
 exact Zon hs hb a hN
theorem Zd6 {l:Lg} {x y:Option ((Lg×ByteArray)×Unit)} (h:SameL l x y):SameL l x (y.bind fun r=>some ((r.1.1,r.1.2),())):=by
 obtain ⟨l',r,e1,e2,e3⟩:=h
 exact ⟨l',r,e1,by rw[e2];rfl,e3⟩
theorem ZiI {N:Nat} {l:Lg} {w:ByteArray} {ns:List Int} (hs:SmL l) (hb:ledB l=true) (h:(actOfV w ns).2=false) (h2:2≤ns.length):SameL l (kTail N l w ns) (some ((l,⟨#[63]⟩),())):=by
 simp only[kTail,h,cond_false,ZlZ w h2,Option.bind_some]
 exact ⟨l,_,rfl,rfl,hb,hs,by decide, .inl rfl⟩
theorem Zdh (w:ByteArray):(w=⟨#[112,101,114,105,111,100]⟩∧Lib.idxOfS actWords w=0)∨(w=⟨#[110,101,101,100]⟩∧Lib.idxOfS actWords w=1)∨(w=⟨#[111,114,100,101,114]⟩∧Lib.idxOfS actWords w=2)∨(w=⟨#[115,116,101,112]⟩∧Lib.idxOfS actWords w=3)∨(w=⟨#[114,101,112,108,97,110]⟩∧Lib.idxOfS actWords w=4)∨(w=⟨#[99,108,101,97,114]⟩∧Lib.idxOfS actWords w=5)∨
  (Lib.idxOfS actWords w= -1∧w≠⟨#[112,101,114,105,111,100]⟩∧w≠⟨#[110,101,101,100]⟩∧w≠⟨#[111,114,100,101,114]⟩∧w≠⟨#[115,116,101,112]⟩∧w≠⟨#[114,101,112,108,97,110]⟩∧w≠⟨#[99,108,101,97,114]⟩):=by
 by_cases h0:w=⟨#[112,101,114,105,111,100]⟩
 ·subst h0;exact .inl ⟨rfl,by decide⟩
 by_cases h1:w=⟨#[110,101,101,100]⟩
 ·subst h1;exact .inr (.inl ⟨rfl,by decide⟩)
 by_cases h2:w=⟨#[111,114,100,101,114]⟩
 ·subst h2;exact .inr (.inr (.inl ⟨rfl,by decide⟩))
 by_cases h3:w=⟨#[115,116,101,112]⟩
 ·subst h3;exact .inr (.inr (.inr (.inl ⟨rfl,by decide⟩)))
 by_cases h4:w=⟨#[114,101,112,108,97,110]⟩
 ·subst h4;exact .inr (.inr (.inr (.inr (.inl ⟨rfl,by decide⟩))))
 by_cases h5:w=⟨#[99,108,101,97,114]⟩
 ·subst h5;exact .inr (.inr (.inr (.inr (.inr (.inl ⟨rfl,by decide⟩)))))
 refine .inr (.inr (.inr (.inr (.inr (.inr ⟨?_,h0,h1,h2,h3,h4,h5⟩)))))
 simp only[Lib.idxOfS,actWords,Lib.idxFromS]
 rw[if_neg (Ne.symm h0),if_neg (Ne.symm h1),if_neg (Ne.symm h2),if_neg (Ne.symm h3),if_neg (Ne.symm h4),if_neg (Ne.symm h5)]
theorem Za8 {w:ByteArray} {ns:List Int} (h:Lib.idxOfS actWords w= -1∨ns.length≠actAr (Lib.idxOfS actWords w)):(actOfV w ns).2=false:=by
 unfold actOfV;rw[if_pos h]
theorem Zdx {w:ByteArray} {ns:List Int} {k:Int} (hk:Lib.idxOfS actWords w=k) (h0:k≠ -1) (h:ns.length=actAr k):actOfV w ns=((k+1,ns.getD 0 0,ns.getD 1 0,ns.getD 2 0,ns.getD 3 0),true):=by
 unfold actOfV;rw[hk,if_neg (by rintro (h1 | h1)<;>contradiction)]
theorem ZaW {x y:ByteArray} (h:x≠y):Go.Rx.seq x y=false:=by rw[Zb6];exact decide_eq_false h
theorem ZhT (x:ByteArray):Go.Rx.seq x x=true:=by rw[Zb6];exact decide_eq_true rfl
theorem Zqh {N:Nat} {l:Lg} (hs:SmL l) (hb:ledB l=true) (w:ByteArray) (hN:4194304≤N):SameL l (kTail N l w []) (Q135 N l w):=by
 have no:(actOfV w []).2=false→SameL l (kTail N l w []) ((Q133 N l w).bind fun r3=>some ((l,r3.1),())):=fun h=>Znt hs hb h (by rw[Zl0];exact Znp hs hb w hN)
 unfold Q135
 rcases Zdh w with ⟨h,hi⟩ | ⟨h,hi⟩ | ⟨h,hi⟩ | ⟨h,hi⟩ | ⟨h,hi⟩ | ⟨h,hi⟩ | ⟨hi,h0,h1,h2,h3,h4,h5⟩
 ·have n:=Za8 (w:=w) (ns:=[]) (.inr (by rw[hi];decide))
  rw[ZaW (x:=w) (y:=⟨#[115,116,101,112]⟩) (by rw[h];decide),ZaW (x:=w) (y:=⟨#[114,101,112,108,97,110]⟩) (by rw[h];decide),ZaW (x:=w) (y:=⟨#[99,108,101,97,114]⟩) (by rw[h];decide)]
  exact no n
 ·have n:=Za8 (w:=w) (ns:=[]) (.inr (by rw[hi];decide))
  rw[ZaW (x:=w) (y:=⟨#[115,116,101,112]⟩) (by rw[h];decide),ZaW (x:=w) (y:=⟨#[114,101,112,108,97,110]⟩) (by rw[h];decide),ZaW (x:=w) (y:=⟨#[99,108,101,97,114]⟩) (by rw[h];decide)]
  exact no n
 ·have n:=Za8 (w:=w) (ns:=[]) (.inr (by rw[hi];decide))
  rw[ZaW (x:=w) (y:=⟨#[115,116,101,112]⟩) (by rw[h];decide),ZaW (x:=w) (y:=⟨#[114,101,112,108,97,110]⟩) (by rw[h];decide),ZaW (x:=w) (y:=⟨#[99,108,101,97,114]⟩) (by rw[h];decide)]
  exact no n
 ·rw[show Go.Rx.seq w ⟨#[115,116,101,112]⟩=true by rw[h];exact ZhT _]
  exact Zd6 (Zdw hs hb hN (Zdx (ns:=[]) hi (by decide) rfl))
 ·rw[ZaW (x:=w) (y:=⟨#[115,116,101,112]⟩) (by rw[h];decide),show Go.Rx.seq w ⟨#[114,101,112,108,97,110]⟩=true by rw[h];exact ZhT _]
  exact Zd6 (Zdw hs hb hN (Zdx (ns:=[]) hi (by decide) rfl))
 ·rw[ZaW (x:=w) (y:=⟨#[115,116,101,112]⟩) (by rw[h];decide),ZaW (x:=w) (y:=⟨#[114,101,112,108,97,110]⟩) (by rw[h];decide),show Go.Rx.seq w ⟨#[99,108,101,97,114]⟩=true by rw[h];exact ZhT _]
  exact Zd6 (Zdw hs hb hN (Zdx (ns:=[]) hi (by decide) rfl))
 ·have n:=Za8 (w:=w) (ns:=[]) (.inl hi)
  rw[ZaW h3,ZaW h4,ZaW h5]
  exact no n
theorem Zqi {N:Nat} {l:Lg} (hs:SmL l) (hb:ledB l=true) (w:ByteArray) (k:Int) (hN:4194304≤N):SameL l (kTail N l w [k]) ((Q124 N l w k).bind fun r3=>some ((l,r3.1),())):=by
 refine Znt hs hb ?_ (Zom hb w k hN)
 refine Za8 ?_
 rcases Zdh w with ⟨h,hi⟩ | ⟨h,hi⟩ | ⟨h,hi⟩ | ⟨h,hi⟩ | ⟨h,hi⟩ | ⟨h,hi⟩ | ⟨hi,_⟩<;>rw[hi]
 case inr.inr.inr.inr.inr.inr=>exact .inl rfl
 all_goals exact .inr (by rw[List.length_singleton];decide)
theorem Zqj {N:Nat} {l:Lg} (hs:SmL l) (hb:ledB l=true) (w:ByteArray) (a b:Int) (hN:4194304≤N):SameL l (kTail N l w [a,b]) (bif Go.Rx.seq w ⟨#[110,101,101,100]⟩ then (Q114 N l (2,(a,(b,(0,0))))).bind fun r4=>some ((r4.1.1,r4.1.2),()) else bif Go.Rx.seq w ⟨#[111,114,100,101,114]⟩ then (Q114 N l (3,(a,(b,(0,0))))).bind fun r5=>some ((r5.1.1,r5.1.2),()) else some ((l,⟨#[63]⟩),())):=by
 have no:(actOfV w [a,b]).2=false→SameL l (kTail N l w [a,b]) (some ((l,⟨#[63]⟩),())):=fun h=>ZiI hs hb h (by simp)
 rcases Zdh w with ⟨h,hi⟩ | ⟨h,hi⟩ | ⟨h,hi⟩ | ⟨h,hi⟩ | ⟨h,hi⟩ | ⟨h,hi⟩ | ⟨hi,h0,h1,h2,h3,h4,h5⟩
 ·rw[ZaW (x:=w) (y:=⟨#[110,101,101,100]⟩) (by rw[h];decide),ZaW (x:=w) (y:=⟨#[111,114,100,101,114]⟩) (by rw[h];decide)]
  exact no (Za8 (.inr (by rw[hi];simp [actAr])))
 ·rw[show Go.Rx.seq w ⟨#[110,101,101,100]⟩=true by rw[h];exact ZhT _]
  exact Zd6 (Zdw hs hb hN (Zdx (ns:=[a,b]) hi (by decide) rfl))
 ·rw[ZaW (x:=w) (y:=⟨#[110,101,101,100]⟩) (by rw[h];decide),show Go.Rx.seq w ⟨#[111,114,100,101,114]⟩=true by rw[h];exact ZhT _]
  exact Zd6 (Zdw hs hb hN (Zdx (ns:=[a,b]) hi (by decide) rfl))
 ·rw[ZaW (x:=w) (y:=⟨#[110,101,101,100]⟩) (by rw[h];decide),ZaW (x:=w) (y:=⟨#[111,114,100,101,114]⟩) (by rw[h];decide)]
  exact no (Za8 (.inr (by rw[hi];simp [actAr])))
 ·rw[ZaW (x:=w) (y:=⟨#[110,101,101,100]⟩) (by rw[h];decide),ZaW (x:=w) (y:=⟨#[111,114,100,101,114]⟩) (by rw[h];decide)]
  exact no (Za8 (.inr (by rw[hi];simp [actAr])))
 ·rw[ZaW (x:=w) (y:=⟨#[110,101,101,100]⟩) (by rw[h];decide),ZaW (x:=w) (y:=⟨#[111,114,100,101,114]⟩) (by rw[h];decide)]
  exact no (Za8 (.inr (by rw[hi];simp [actAr])))
 ·rw[ZaW h1,ZaW h2]
  exact no (Za8 (.inl hi))
theorem Zqk {N:Nat} {l:Lg} (hs:SmL l) (hb:ledB l=true) (w:ByteArray) (a b c d:Int) (hN:4194304≤N):SameL l (kTail N l w [a,b,c,d]) (bif Go.Rx.seq w ⟨#[112,101,114,105,111,100]⟩ then (Q114 N l (1,(a,(b,(c,d))))).bind fun r6=>some ((r6.1.1,r6.1.2),()) else some ((l,⟨#[63]⟩),())):=by
 have no:(actOfV w [a,b,c,d]).2=false→SameL l (kTail N l w [a,b,c,d]) (some ((l,⟨#[63]⟩),())):=fun h=>ZiI hs hb h (by simp)
 rcases Zdh w with ⟨h,hi⟩ | ⟨h,hi⟩ | ⟨h,hi⟩ | ⟨h,hi⟩ | ⟨h,hi⟩ | ⟨h,hi⟩ | ⟨hi,h0,h1,h2,h3,h4,h5⟩
 ·rw[show Go.Rx.seq w ⟨#[112,101,114,105,111,100]⟩=true by rw[h];exact ZhT _]
  exact Zd6 (Zdw hs hb hN (Zdx (ns:=[a,b,c,d]) hi (by decide) rfl))
 all_goals first | rw[ZaW (x:=w) (y:=⟨#[112,101,114,105,111,100]⟩) (by rw[h];decide)] | rw[ZaW h0]
 all_goals first | exact no (Za8 (.inl hi)) | exact no (Za8 (.inr (by rw[hi];simp [actAr])))
theorem ZjL {w:ByteArray} {ns:List Int} (h2:ns.length≠2) (h4:ns.length≠4) (h0:ns.length≠0):(actOfV w ns).2=false:=by
 refine Za8 ?_
 rcases Zdh w with ⟨h,hi⟩ | ⟨h,hi⟩ | ⟨h,hi⟩ | ⟨h,hi⟩ | ⟨h,hi⟩ | ⟨h,hi⟩ | ⟨hi,_⟩<;>rw[hi]
 case inr.inr.inr.inr.inr.inr=>exact .inl rfl
 ·exact .inr h4
 ·exact .inr h2
 ·exact .inr h2
 ·exact .inr h0
 ·exact .inr h0
 ·exact .inr h0
theorem Znu {N:Nat} {l:Lg} (hs:SmL l) (hb:ledB l=true) {s:ByteArray} (hz:s.size≤1000) (hN:4194304≤N):SameL l (Q57 N l s) (Q115 N l s):=by
 have hp:=ZoF s
 have hl:=Zlr 32 s
 have h1:=Znr (s:=s)
 rw[Zkq hz hN]
 simp only[Q115,show (32:Int)=(((32:UInt8).toNat:Nat):Int) from rfl,Zls 32 (show s.size<1000000 by omega) hN,Option.bind_some,ieq_eq,len_eq]
 generalize wsOf 32 s=ws at hp hl h1 ⊢
 by_cases hw1:ws.length=1
 ·have e:=h1 hw1
  subst e
  rw[show nsB [s]=true from rfl,Zns (by simp) (by simp [nsOf])]
  exact Zd6 (Zqh hs hb s hN)
 ·simp only[decide_eq_false (show ¬((ws.length:Nat):Int)=1 by omega),cond_false,Zl1 (N:=N) (ws:=ws) (by omega) hN,Option.bind_some]
  cases hB:nsB ws with
  | false=>exact ⟨l,_,rfl,rfl,hb,hs,by decide, .inl rfl⟩
  | true=>
   have hn:=ZiH ws (ws.length - 1)
   simp only[cond_true,Bool.not_true,cond_false,Zf (Zc7 (i:=0) (n:=ws.length) (by omega) (by omega)),Int.toNat_zero]
   rw[Zns hp (by rw[hn];omega)]
   generalize nsOf ws (ws.length - 1)=ns at hn ⊢
   have hn2:1≤ns.length:=by omega
   match ns,hn2 with
   | [k],_=>exact Zqi hs hb _ k hN
   | [a,b],_=>exact Zqj hs hb _ a b hN
   | [a,b,c],_=>exact ZiI hs hb (ZjL (by simp) (by simp) (by simp)) (by simp)
   | [a,b,c,d],_=>exact Zqk hs hb _ a b c d hN
   | a::b::c::d::e::r,_=>
    have e1:decide (((a::b::c::d::e::r).length:Int)=1)=false:=decide_eq_false (by simp only[List.length_cons];omega)
    have e2:decide (((a::b::c::d::e::r).length:Int)=2)=false:=decide_eq_false (by simp only[List.length_cons];omega)
    have e4:decide (((a::b::c::d::e::r).length:Int)=4)=false:=decide_eq_false (by simp only[List.length_cons];omega)
    rw[e1,e2,e4]
    exact ZiI hs hb (ZjL (by simp) (by simp) (by simp)) (by simp)
def SmCon (c:Con):Prop:=SmL c.1∧c.2.1.size<4194304∧c.2.2.1.size<4194304
theorem Zql {N:Nat} {l:Lg} (h:SmL l):Q38 N l=some (l,()):=by
 have h0:=h.c.s0;have h1:=h.c.s1;have h2:=h.c.s2;have h3:=h.c.s3;have h4:=h.p
 have key:∀xs:List Int,xs.length<4194304→Q55 N xs=some (xs,()):=fun xs hx=>by
  simp only[Q55,Zf (Zn (n:=0+xs.length) (b:=8) (by omega) (by omega))]
 simp only[Q38,key _ h0,key _ h1,key _ h2,key _ h3,key _ h4,Option.bind_some]
theorem Zp2 {N:Nat} {l:Lg} (h:SmL l):Q126 N l=some (l,()):=by
 have h0:=h.c.s0;have h1:=h.c.s1;have h2:=h.c.s2;have h3:=h.c.s3;have h4:=h.p
 have key:∀xs:List Int,xs.length<4194304→Q140 N xs=some (xs,()):=fun xs hx=>by
  simp only[Q140,Zf (Zn (n:=0+xs.length) (b:=8) (by omega) (by omega))]
 simp only[Q126,key _ h0,key _ h1,key _ h2,key _ h3,key _ h4,Option.bind_some]
def cmdB (s:ByteArray):Bool:= !(Go.Rx.seq s (⟨#[]⟩:ByteArray)) && (plB s && (decide ((s.size:Int)≤160) && !(hasB s 35 || hasB s 64)))
def conB (c:Con):Bool:=ledB c.1 && logB c.2
theorem Zpu (s:ByteArray):recB (s,⟨#[]⟩)=cmdB s:=by
 have h1:plB (⟨#[]⟩:ByteArray)=true:=by decide
 have h2:hasB (⟨#[]⟩:ByteArray) 35=false:=by decide
 have h3:decide (((⟨#[]⟩:ByteArray).size:Int)≤200)=true:=by decide
 simp only[recB,cmdB,h1,h2,h3,Bool.not_false,Bool.and_true,Bool.true_and]
 cases hasB s 35<;>cases hasB s 64<;>simp
theorem Zp3 {N:Nat} {c:Con} (h:SmCon c) (hN:4194304≤N):Q33 N c=some (conB c,()):=by
 obtain ⟨hs,s1,s2⟩:=h
 simp only[Q33,ZU hs hN,ZbY (l:=c.2) s1 s2 hN,Option.bind_some,conB]
 cases ledB c.1<;>rfl
theorem Zp4 {N:Nat} {c:Con} (h:SmCon c) (hN:4194304≤N):Q103 N c=some (conB c,()):=by
 obtain ⟨hs,s1,s2⟩:=h
 simp only[Q103,ZbL hs hN,ZcN (l:=c.2) s1 s2 hN,Option.bind_some,conB]
 cases ledB c.1<;>rfl
theorem Zp5 {l:Lo} (h1:l.1.size<4194304) (h2:l.2.1.size<4194304) (e:ByteArray×ByteArray):(appT l e).1.1.size<4194304∧(appT l e).1.2.1.size<4194304:=by
 have h3:=Zm9 l e
 by_cases hv:logB l=true
 ·have:=Ze9 hv;omega
 ·have:appT l e=(l,1):=by unfold appT;rw[if_neg (fun h=>hv h.1)]
  rw[this];exact ⟨h1,h2⟩
def Did (c:Con) (s:ByteArray) (r:Con×ByteArray):Prop:=
 r.1=c∨(conB c=true∧cmdB s=true∧c.2.2.2≠60∧r.1.2=(appT c.2 (s,r.2)).1∧ledB r.1.1=true∧(r.1.1=c.1∨RepP r.2))
theorem ZjM {N:Nat} {c:Con} {s:ByteArray} (h:SmCon c) (hz:s.size<4194304) (hN:4194304≤N):∃r:Con×ByteArray,Q26 N c s=some (r,())∧Q99 N c s=some (r,())∧SmCon r.1∧r.2.size<100000∧Did c s r:=by
 obtain ⟨hs,s1,s2⟩:=id h
 have hc:(!(Go.Rx.seq s (⟨#[]⟩:ByteArray)) && (plB s && (decide ((s.size:Int)≤160) && !(hasB s 35 || hasB s 64))))=cmdB s:=rfl
 simp only[Q26,Q99,Zql hs,Zp2 hs,Zp3 h hN,Zp4 h hN,Zck hz hN,hc,Za5 (e:=(s,⟨#[]⟩)) hz (show (⟨#[]⟩:ByteArray).size<4194304 by decide) hN,Zpu,Option.bind_some,ieq_eq]
 cases hv:conB c with
 | false=>exact ⟨(c,⟨#[110,111]⟩),rfl,rfl,h,show (⟨#[110,111]⟩:ByteArray).size<100000 by decide, .inl rfl⟩
 | true=>
 cases hm:cmdB s with
 | false=>exact ⟨(c,⟨#[98,97,100]⟩),rfl,rfl,h,show (⟨#[98,97,100]⟩:ByteArray).size<100000 by decide, .inl rfl⟩
 | true=>
 by_cases hk:c.2.2.2=60
 ·rw[decide_eq_true hk]
  exact ⟨(c,⟨#[102,117,108,108]⟩),rfl,rfl,h,show (⟨#[102,117,108,108]⟩:ByteArray).size<100000 by decide, .inl rfl⟩
 ·rw[decide_eq_false hk]
  have hb:ledB c.1=true:=by
   have hv':=hv
   simp only[conB,Bool.and_eq_true] at hv';exact hv'.1
  have h160:s.size≤160:=by
   have hm':=hm
   simp only[cmdB,Bool.and_eq_true,decide_eq_true_eq] at hm';omega
  obtain ⟨l',r,e1,e2,b',sm',rs,fin⟩:=Znu hs hb (s:=s) (by omega) hN
  have a1:=ZdC (N:=N) (l:=c.2) (e:=(s,r)) s1 s2 (by show s.size<4194304;omega) (by show r.size<4194304;omega) hN
  have a2:=ZdB (N:=N) (l:=c.2) (e:=(s,r)) s1 s2 (by show s.size<4194304;omega) (by show r.size<4194304;omega) hN
  simp only[Bool.not_true,cond_false,e1,e2,Option.bind_some,a1,a2,Zp2 sm']
  exact ⟨((l',(appT c.2 (s,r)).1),r),rfl,rfl,⟨sm',Zp5 s1 s2 _⟩,rs, .inr ⟨hv,hm,hk,rfl,b',fin⟩⟩
theorem Zqm {c:Con} (h:RngCon c):∃r,Q82 4194304 c 1048576=some (r,())∧(r<0∨0≤r∧SmCon c):=by
 simp only[Q82,ilt_eq]
 obtain ⟨r1,e1,q1⟩:=laws_szLedger_eq 4194304 h.1 (show (0:Int)≤1048576 by omega) (by omega)
 rcases q1 with q1 | ⟨q1,q2,hs⟩
 ·exact ⟨-1,by simp [e1,q1], .inl (by omega)⟩
 obtain ⟨r2,e2,p⟩:=laws_szLog_eq 4194304 h.2 q1 q2
 have n0:¬r1<0:=by omega
 rcases p with p | ⟨p,p1,p2,p3⟩
 ·exact ⟨-1,by simp [e1,n0,e2,p], .inl (by omega)⟩
 ·exact ⟨r2,by simp [e1,n0,e2,show ¬r2<0 by omega], .inr ⟨p,hs,by omega,by omega⟩⟩
end Go.Rx.Px
namespace Go.Rx
theorem Zpv {α:Type} (f:Nat→α) (a:List α) {i:Nat} (hi:i<a.length):((List.range i).map f++a.drop i).set i (f i)=(List.range (i+1)).map f++a.drop (i+1):=by
 have e:(a.drop i).set 0 (f i)=f i::a.drop (i+1):=by rw[List.drop_eq_getElem_cons hi];rfl
 rw[List.set_append,if_neg (by simp),List.range_succ]
 simp [e]
end Go.Rx
namespace Go.Rx.Px
theorem Zg8 {N:Nat} {a:List ByteArray} (ha:a.length<4194304) (hN:4194304≤N):Q73 N a a=some (true,()):=by
 simp only[Q73,ine_eq,decide_true,Bool.not_true,cond_false]
 refine Q73_L1_run N (fun _=>a) (fun _=>a) (fun i=>(i:Int)) a.length (fun i hi kx=> ?_) (fun kx=> ?_) N (by omega)
 ·simp only[Q73_B1,ilt_eq,len_eq,Int.ofNat_lt,hi,decide_true,cond_true,Zb hi,chk_true',Zim,Bool.not_true,cond_false,Zc (show i<4611686018427387904 by omega)]
 ·simp only[Q73_B1,Q73_K1,ilt_eq,len_eq,Int.lt_irrefl,decide_false,cond_false]
def mkS (N:Nat) (n:Nat):List ByteArray:=(List.range n).map fun j=>mv N ((j+1:Nat):Int)
theorem Zg9 {N:Nat} {a:List ByteArray} (ha:a.length<1000) (hN:4194304≤N):Q79 N a 1=some (((a.length+1:Nat):Int),mkS N a.length):=by
 simp only[Q79]
 have hl:∀i,i≤a.length→((List.range i).map (fun j=>mv N ((j+1:Nat):Int))++a.drop i).length=a.length:=fun i hi=>by simp;omega
 have e0:a=(List.range 0).map (fun j=>mv N ((j+1:Nat):Int))++a.drop 0:=by simp
 conv=>lhs;arg 5;rw[e0]
 refine Q79_L1_run N (fun i=>((i+1:Nat):Int)) (fun i=>(i:Int)) (fun i=>(List.range i).map (fun j=>mv N ((j+1:Nat):Int))++a.drop i) a.length (fun i hi kx=> ?_) (fun kx=> ?_) N (by omega)
 ·have e1:iadd .i64 ((i+1:Nat):Int) 1=((i+1+1:Nat):Int):=by rw[Zh (by omega) (by omega)];omega
  simp only[Q79_B1,ilt_eq,len_eq,hl i (by omega),Int.ofNat_lt,hi,decide_true,cond_true,e1,ZpV (N:=N) (k:=((i+1:Nat):Int)) (by omega) (by omega) hN,Option.bind_some,Zb hi,chk_true',Int.toNat_natCast,Zc (show i<4611686018427387904 by omega),Zpv (fun j=>mv N ((j+1:Nat):Int)) a hi]
 ·simp only[Q79_B1,Q79_K1,ilt_eq,len_eq,List.drop_length,List.append_nil,Z0,Int.lt_irrefl,decide_false,cond_false,mkS]
theorem Zha {N n:Nat} (hn:n<1000) (hN:4194304≤N):Q74 N (mkS N n) 1=some (((n+1:Nat):Int),()):=by
 simp only[Q74]
 have hl:(mkS N n).length=n:=by simp [mkS]
 refine Q74_L1_run N (fun _=>mkS N n) (fun i=>((i+1:Nat):Int)) (fun i=>(i:Int)) n (fun i hi kx=> ?_) (fun kx=> ?_) N (by omega)
 ·have e1:iadd .i64 ((i+1:Nat):Int) 1=((i+1+1:Nat):Int):=by rw[Zh (by omega) (by omega)];omega
  have e2:gd (mkS N n) i ⟨#[]⟩=mv N ((i+1:Nat):Int):=ZaL _ _ hi
  simp only[Q74_B1,ilt_eq,len_eq,hl,Int.ofNat_lt,hi,decide_true,cond_true,Zb hi,chk_true',Int.toNat_natCast,e2,e1,ZpV (N:=N) (k:=((i+1:Nat):Int)) (by omega) (by omega) hN,Option.bind_some,Zim,Bool.not_true,cond_false,Zc (show i<4611686018427387904 by omega)]
 ·simp only[Q74_B1,Q74_K1,ilt_eq,len_eq,hl,Int.lt_irrefl,decide_false,cond_false]
theorem ZiJ (c:UInt8):∀(l a:List UInt8),∀w∈spl c a l,w.length≤a.length+l.length
 | [],a,w,h=>by simp [spl] at h;subst h;simp
 | b::l,a,w,h=>by
  rw[spl] at h
  split at h
  ·rcases List.mem_cons.1 h with rfl | h
   ·simp
   ·have:=ZiJ c l [] w h
    simp at this ⊢;omega
  ·have:=ZiJ c l _ w h
   simp at this ⊢;omega
theorem Znv (c:UInt8) (s:ByteArray) (i:Nat):(gd (wsOf c s) i ⟨#[]⟩).size≤s.size:=by
 by_cases h:i<(wsOf c s).length
 ·have hm:gd (wsOf c s) i ⟨#[]⟩∈wsOf c s:=by
   rw[gd,List.getD_eq_getElem?_getD,List.getElem?_eq_getElem h];exact List.getElem_mem h
  unfold wsOf at hm ⊢
  obtain ⟨w,h1,h2⟩:=List.mem_map.1 hm
  rw[←h2]
  have:=ZiJ c _ [] w h1
  simp at this
  show w.length≤s.size
  rw[Ze];exact this
 ·rw[gd,List.getD_eq_getElem?_getD,List.getElem?_eq_none (by omega)]
  exact Nat.zero_le _
noncomputable def exC (N:Nat) (c:Con) (s:ByteArray):Con×ByteArray:=Option.elim (Q26 N c s) (c,⟨#[]⟩) fun r=>r.1
theorem Zpw {N:Nat} {c:Con} {s:ByteArray} (h:SmCon c) (hz:s.size<4194304) (hN:4194304≤N):Q26 N c s=some (exC N c s,())∧Q99 N c s=some (exC N c s,())∧SmCon (exC N c s).1∧(exC N c s).2.size<100000∧Did c s (exC N c s):=by
 obtain ⟨r,e1,e2,h3,h4,h5⟩:=ZjM h hz hN
 have e:exC N c s=r:=by unfold exC;rw[e1];rfl
 rw[e];exact ⟨e1,e2,h3,h4,h5⟩
noncomputable def goC (N:Nat) (lines:List ByteArray) (c:Con):Nat→Con
 | 0=>c
 | i+1=>(exC N (goC N lines c i) (gd lines i ⟨#[]⟩)).1
noncomputable def outC (N:Nat) (lines:List ByteArray) (c:Con) (n:Nat):List ByteArray:=(List.range n).map fun i=>(exC N (goC N lines c i) (gd lines i ⟨#[]⟩)).2
theorem Znw {N:Nat} {lines:List ByteArray} {c:Con} (h:SmCon c) (hz:∀i,(gd lines i ⟨#[]⟩).size<4194304) (hN:4194304≤N):∀i,SmCon (goC N lines c i)
 | 0=>h
 | i+1=>(Zpw (Znw h hz hN i) (hz i) hN).2.2.1
theorem ZiK (N:Nat) (lines:List ByteArray) (c:Con) (n:Nat):(outC N lines c n).length=n:=by simp [outC]
theorem outC_succ (N:Nat) (lines:List ByteArray) (c:Con) (n:Nat):outC N lines c (n+1)=outC N lines c n++[(exC N (goC N lines c n) (gd lines n ⟨#[]⟩)).2]:=map_range_succ _ _
noncomputable def runP (N:Nat) (c:Con) (text:ByteArray):List ByteArray×Bool:=
 bif conB c && (decide (text.size≤4000) && decide ((wsOf 10 text).length≤30)) then (outC N (wsOf 10 text) c (wsOf 10 text).length,true) else ([],false)
theorem Zfc {N:Nat} {c:Con} {text:ByteArray} (h:SmCon c) (hz:text.size<4194304) (hN:4194304≤N):Q45 N c text=some (runP N c text,()):=by
 have hsz:=fun i=>Znv 10 text i
 have eS:strings_Split N text ⟨#[10]⟩=some (wsOf 10 text,()):=by
  have:=ZcO (N:=N) (l:=bts text) (c:=10) (by rw[←Ze];omega)
  rw[Zkf] at this
  exact this
 simp only[Q45,eS,Zp3 h hN,Option.bind_some,runP,ilt_eq,slen,len_eq]
 generalize wsOf 10 text=ws at hsz ⊢
 cases hv:conB c with
 | false=>rfl
 | true=>
 by_cases h1:text.size≤4000
 ·by_cases h2:ws.length≤30
  ·simp only[Bool.not_true,cond_false,decide_eq_false (show ¬(4000:Int)<text.size by omega),decide_eq_false (show ¬(30:Int)<ws.length by omega),decide_eq_true h1,decide_eq_true h2,Bool.and_true,cond_true]
   refine Q45_L1_run N (fun _=>(ws.length:Int)) (fun i=>(i:Int)) (goC N ws c) (outC N ws c) (fun _=>ws) ws.length (fun i hi kx=> ?_) (fun kx=> ?_) N (by omega)
   ·have hg:=Zpw (Znw (lines:=ws) h (fun i=>by have:=hsz i;omega) hN i) (show (gd ws i ⟨#[]⟩).size<4194304 by have:=hsz i;omega) hN
    simp only[Q45_B1,ilt_eq,Int.ofNat_lt,hi,decide_true,cond_true,Zb hi,chk_true',Int.toNat_natCast,hg.1,Option.bind_some,outC_succ,goC,Zc (show i<4611686018427387904 by omega)]
    rw[Zf (Zn (by rw[ZiK];omega) (by omega))]
   ·simp only[Q45_B1,Q45_K1,ilt_eq,Int.lt_irrefl,decide_false,cond_false]
  ·simp only[Bool.not_true,cond_false,decide_eq_false (show ¬(4000:Int)<text.size by omega),decide_eq_true (show (30:Int)<ws.length by omega),decide_eq_true h1,decide_eq_false h2,Bool.and_false,cond_true]
 ·simp only[Bool.not_true,cond_false,decide_eq_true (show (4000:Int)<text.size by omega),decide_eq_false h1,Bool.false_and,Bool.and_false,cond_true]
theorem Zfd {N:Nat} {c:Con} {text:ByteArray} (h:SmCon c) (hz:text.size<4194304) (hN:4194304≤N):Q106 N c text=some (runP N c text,()):=by
 have hsz:=fun i=>Znv 10 text i
 simp only[Q106,Zp4 h hN,Option.bind_some,runP,ilt_eq,slen,len_eq]
 cases hv:conB c with
 | false=>rfl
 | true=>
 by_cases h1:text.size≤4000
 ·simp only[Bool.not_true,cond_false,decide_eq_false (show ¬(4000:Int)<text.size by omega),show (10:Int)=(((10:UInt8).toNat:Nat):Int) from rfl,Zls 10 (show text.size<1000000 by omega) hN,Option.bind_some,len_eq,decide_eq_true h1]
  generalize wsOf 10 text=ws at hsz ⊢
  by_cases h2:ws.length≤30
  ·simp only[decide_eq_false (show ¬(30:Int)<ws.length by omega),decide_eq_true h2,Bool.and_true,cond_true,cond_false]
   refine Q106_L1_run N (fun i=>(i:Int)) (goC N ws c) (outC N ws c) (fun _=>ws) ws.length (fun i hi kx=> ?_) (fun kx=> ?_) N (by omega)
   ·have hg:=Zpw (Znw (lines:=ws) h (fun i=>by have:=hsz i;omega) hN i) (show (gd ws i ⟨#[]⟩).size<4194304 by have:=hsz i;omega) hN
    simp only[Q106_B1,ilt_eq,len_eq,Int.ofNat_lt,hi,decide_true,cond_true,Zb hi,chk_true',Int.toNat_natCast,hg.2.1,Option.bind_some,outC_succ,goC,Zc (show i<4611686018427387904 by omega)]
    rw[Zf (Zn (by rw[ZiK];omega) (by omega))]
   ·simp only[Q106_B1,Q106_K1,ilt_eq,len_eq,Int.lt_irrefl,decide_false,cond_false]
  ·simp only[decide_eq_true (show (30:Int)<ws.length by omega),decide_eq_false h2,Bool.and_false,cond_true,cond_false]
 ·simp only[Bool.not_true,cond_false,decide_eq_true (show (4000:Int)<text.size by omega),decide_eq_false h1,Bool.false_and,Bool.and_false,cond_true]
theorem Zoo {N:Nat} {c:Con} {text:ByteArray}:(runP N c text).1.length≤30:=by
 unfold runP
 cases hb:conB c && (decide (text.size≤4000) && decide ((wsOf 10 text).length≤30)) with
 | false=>simp
 | true=>
  simp only[Bool.and_eq_true,decide_eq_true_eq] at hb
  simp only[cond_true,ZiK];exact hb.2.2
theorem Zqn {N:Nat} {c:Con} (h:SmCon c) (hN:4194304≤N):Q87 N c=some (c,()):=by
 simp only[Q87,laws_toLedger_eq h.1 hN,Q90,Option.bind_some]
theorem markConsole_run {N:Nat} {a:Lg×ByteArray×ByteArray×Int} {k:Int} (hl:SmL a.1) (h0:0≤k) (h1:k≤800000000000) (hN:4194304≤N):∃r a',Q76 N a k=some (r,a')∧k≤r∧True:=by
 obtain ⟨r1,a1,m1,b1,_⟩:=markLedger_run (N:=N) hl h0 (by omega) hN
 exact ⟨r1,(a1,a.2),by simp only[Q76,m1,Option.bind_some],b1,trivial⟩
theorem laws_FnExactRunScript_law (c:Con) (s:ByteArray) (h:RngCon c) (_hs:RngS s):∃N,laws_FnExactRunScript N c s=some (true,()):=by
 refine ⟨4194304, ?_⟩
 have hn:=Nat.le_refl 4194304
 simp only[laws_FnExactRunScript,ilt_eq,ine_eq,slen]
 by_cases hz:(1048576:Int)<s.size
 ·simp [hz]
 obtain ⟨r,e,q⟩:=Zqm h
 rcases q with q | ⟨q,hc⟩
 ·simp [hz,e,q]
 have hl:=Zoo (N:=4194304) (c:=c) (text:=s)
 obtain ⟨k1,c1,m1,b1,_⟩:=markConsole_run (N:=4194304) (k:=1) hc.1 (by omega) (by omega) hn
 have n0:¬r<0:=by omega
 have n1:¬k1<0:=by omega
 have n2:¬(((runP 4194304 c s).1.length+1:Nat):Int)<0:=by omega
 have eB:Go.Rx.beq (runP 4194304 c s).2 (runP 4194304 c s).2=true:=by cases (runP 4194304 c s).2<;>rfl
 simp only[decide_eq_false hz,cond_false,e,Option.bind_some,decide_eq_false n0,Zqn hc hn,Zfc hc (show s.size<4194304 by omega) hn,Zfd hc (show s.size<4194304 by omega) hn,Zg8 (N:=4194304) (a:=(runP 4194304 c s).1) (by omega) hn,laws_eqConsole_refl hc.1 hn,Bool.not_true,eB,m1,decide_eq_false n1,Zg9 (N:=4194304) (a:=(runP 4194304 c s).1) (by omega) hn,Zha (N:=4194304) (n:=(runP 4194304 c s).1.length) (by omega) hn,decide_eq_false n2,decide_true]
end Go.Rx.Px
