/- This text proves, of the plain functions behind FnReplay, that the law answers true (part 2 of 3); no condition beyond the ranges that its arguments have. -/
import Derived.Test.YtndchhdnmnfnlaaGreatDoorThAFnReplay
set_option linter.unusedVariables false
set_option linter.unusedSimpArgs false
namespace Go.Rx.Px
theorem Zdo {N:Nat} {s:Xo} {most:Int} {o:Xo} (hs:s.size<4194304) (ho:asciiB o=true) (hN:4194304≤N):
  Q63 N s most o=some (plB s && (decide ((s.size:Int)≤most) && !(o.data.toList.any fun c=>hasB s c.toNat)),()):=by
 simp only[Q63,slen];rcases ZZ (fun i=>decide (32≤chr s i) && decide (chr s i≤126)) s.size with h | ⟨j,hj,hb,hat⟩
 ·have hp:plB s=true:=Zee.2 fun i hi=>by simpa using h i hi
  refine Q63_L1_run N (fun _=>s) (fun _=>most) (fun _=>o) (fun _=>(s.size:Int)) (fun i=>(i:Int)) s.size (fun i hi kx=> ?_) (fun kx=> ?_) N (by omega)
  ·have h1:=(Zee.1 hp) i hi
   simp only[Q63_B1,ilt_eq,Zaq,Xk,hi,Xf,Xd,Zb hi,chk_true',Xb (show ¬(chr s i:Int)<32 by omega),Xb (show ¬(126:Int)<(chr s i:Int) by omega),Xe,Zc (show i<4611686018427387904 by omega)]
  ·simp only[Q63_B1,Q63_K1,ilt_eq,ile_eq,slen,Xn,Xg,Xe,strings_ContainsAny,ZnJ hp hs,ho,Bool.and_self,chk_true',Xa,hp,Bool.true_and,Zp7]
   cases decide ((s.size:Int)≤most)<;>rfl
 ·have hp:plB s=false:=by
   cases e:plB s with
   | false=>rfl
   | true=>have:=(Zee.1 e) j hj;simp [this] at hat
  refine Q63_L1_run N (fun _=>s) (fun _=>most) (fun _=>o) (fun _=>(s.size:Int)) (fun i=>(i:Int)) j (fun i hi kx=> ?_) (fun kx=> ?_) N (by omega)
  ·have h1:=hb i hi
   simp only[Xh,Xi] at h1;simp only[Q63_B1,ilt_eq,Zaq,Xk,show i<s.size by omega,Xf,Xd,Zb (show i<s.size by omega),chk_true',Xb (show ¬(chr s i:Int)<32 by omega),Xb (show ¬(126:Int)<(chr s i:Int) by omega),Xe,Zc (show i<4611686018427387904 by omega)]
  ·simp only[Q63_B1,ilt_eq,Zaq,Xk,hj,Xf,Xd,Zb hj,chk_true',hp,Bool.false_and]
   by_cases c:chr s j<32
   ·rw[Xc (show (chr s j:Int)<32 by omega)];rfl
   ·have c2:126<chr s j:=by
     simp only[Bool.and_eq_false_iff,decide_eq_false_iff_not] at hat;omega
    rw[Xb (show ¬(chr s j:Int)<32 by omega),Xc (show (126:Int)<(chr s j:Int) by omega)];rfl
theorem ZcA {N:Nat} {s:Xo} (hs:s.size<4194304) (hN:4194304≤N):
  Q61 N s=some (!(Go.Rx.seq s (⟨#[]⟩:Xo)) && (plB s && (decide ((s.size:Int)≤160) && !(hasB s 35 || hasB s 64))),()):=by
 simp only[Q61,Zdo hs (show asciiB (⟨#[35,64]⟩:Xo)=true by decide) hN,Xa];cases Go.Rx.seq s (⟨#[]⟩:Xo)
 ·simp
 ·rfl
def recB (e:Xo×Xo):Bool:= !(Go.Rx.seq e.1 (⟨#[]⟩:Xo)) && (plB e.1 && (decide ((e.1.size:Int)≤160) && (!(hasB e.1 35) && (!(hasB e.1 64) && (plB e.2 && (decide ((e.2.size:Int)≤200) && !(hasB e.2 35)))))))
theorem Zbs {N:Nat} {e:Xo×Xo} (h1:e.1.size<4194304) (h2:e.2.size<4194304) (hN:4194304≤N):Q35 N e=some (recB e,()):=by
 simp only[Q35,ZcA h1 hN,Zdo h2 (show asciiB (⟨#[35]⟩:Xo)=true by decide) hN,Xa,recB];cases Go.Rx.seq e.1 (⟨#[]⟩:Xo)<;>cases plB e.1<;>cases decide ((e.1.size:Int)≤160)<;>cases hasB e.1 35<;>cases hasB e.1 64<;>simp
theorem Zg7 (n:Nat) (h:n<256):icv .i64 (n:Int)=(n:Int):=by
 simp only[icv];exact Zcg (by omega) (by omega)
theorem ZlG (s:Xo) (i:Nat):chr s i<256:=UInt8.toNat_lt _
theorem Zc1 {N:Nat} {s:Xo} {most:Int} (hs:s.size<4194304) (hN:4194304≤N):
  Q110 N s most=some (plB s && (!(hasB s 35) && decide ((s.size:Int)≤most)),()):=by
 simp only[Q110];rcases ZZ (fun i=>(decide (32≤chr s i) && decide (chr s i≤126)) && !decide (chr s i=35)) s.size with h | ⟨j,hj,hb,hat⟩
 ·have hh:∀i,i<s.size→(32≤chr s i∧chr s i≤126)∧¬chr s i=35:=fun i hi=>by simpa using h i hi
  have hp:plB s=true:=Zee.2 fun i hi=>(hh i hi).1
  have hq:hasB s 35=false:=by
   cases e:hasB s 35 with
   | false=>rfl
   | true=>obtain ⟨i,hi,e2⟩:=Zcd.1 e;exact absurd e2 (hh i hi).2
  refine Q110_L1_run N (fun _=>s) (fun _=>most) (fun i=>(i:Int)) s.size (fun i hi kx=> ?_) (fun kx=> ?_) N (by omega)
  ·have h1:=hh i hi
   simp only[Q110_B1,slen,ilt_eq,ieq_eq,Zaq,Zg7 _ (ZlG s i),ZI,inRg,Xk,hi,Xf,Xd,Zb hi,chk_true',Xa,Xc (show (32:Int)≤(chr s i:Int) by omega),Xc (show (chr s i:Int)≤126 by omega),Bool.and_self,Bool.not_true,Xb (show ¬(chr s i:Int)=35 by omega),Xe,Zc (show i<4611686018427387904 by omega)]
  ·simp only[Q110_B1,Q110_K1,slen,ilt_eq,ile_eq,Xn,Xg,Xe,hp,hq,Bool.true_and,Bool.not_false]
 ·have hat':¬((32≤chr s j∧chr s j≤126)∧¬chr s j=35):=fun h=>by simp [h.1.1,h.1.2,h.2] at hat
  have hp:(plB s && (!(hasB s 35) && decide ((s.size:Int)≤most)))=false:=by
   cases e:plB s with
   | false=>rfl
   | true=>
    have h1:=(Zee.1 e) j hj;rw[Zcd.2 ⟨j,hj,by omega⟩];rfl
  rw[hp];refine Q110_L1_run N (fun _=>s) (fun _=>most) (fun i=>(i:Int)) j (fun i hi kx=> ?_) (fun kx=> ?_) N (by omega)
  ·have h1:=hb i hi
   simp only[Xh,Xi,Bool.not_eq_true',decide_eq_false_iff_not] at h1;simp only[Q110_B1,slen,ilt_eq,ieq_eq,Zaq,Zg7 _ (ZlG s i),ZI,inRg,Xk,show i<s.size by omega,Xf,Xd,Zb (show i<s.size by omega),chk_true',Xa,Xc (show (32:Int)≤(chr s i:Int) by omega),Xc (show (chr s i:Int)≤126 by omega),Bool.and_self,Bool.not_true,Xb (show ¬(chr s i:Int)=35 by omega),Xe,Zc (show i<4611686018427387904 by omega)]
  ·simp only[Q110_B1,slen,ilt_eq,ieq_eq,Zaq,Zg7 _ (ZlG s j),ZI,inRg,Xk,hj,Xf,Xd,Zb hj,chk_true',Xa]
   by_cases c:32≤chr s j∧chr s j≤126
   ·have c2:chr s j=35:=by omega
    rw[c2];rfl
   ·by_cases c1:32≤chr s j
    ·rw[Xc (show (32:Int)≤(chr s j:Int) by omega),Xb (show ¬(chr s j:Int)≤126 by omega)];rfl
    ·rw[Xb (show ¬(32:Int)≤(chr s j:Int) by omega)];rfl
theorem ZfY {N:Nat} {s:Xo} {c:Nat} (hs:s.size<4194304) (hN:4194304≤N):
  Q145 N s (c:Int)=some (hasB s c,()):=by
 simp only[Q145];rcases ZZ (fun i=> !decide (chr s i=c)) s.size with h | ⟨j,hj,hb,hat⟩
 ·have hh:∀i,i<s.size→¬chr s i=c:=fun i hi=>by simpa using h i hi
  have hq:hasB s c=false:=by
   cases e:hasB s c with
   | false=>rfl
   | true=>obtain ⟨i,hi,e2⟩:=Zcd.1 e;exact absurd e2 (hh i hi)
  refine Q145_L1_run N (fun _=>s) (fun _=>(c:Int)) (fun i=>(i:Int)) s.size (fun i hi kx=> ?_) (fun kx=> ?_) N (by omega)
  ·have h1:=hh i hi
   simp only[Q145_B1,slen,ilt_eq,ieq_eq,Zaq,Xk,hi,Xf,Xd,Zb hi,chk_true',Xb (show ¬(chr s i:Int)=c by omega),Xe,Zc (show i<4611686018427387904 by omega)]
  ·simp only[Q145_B1,Q145_K1,slen,ilt_eq,Xn,Xg,Xe,hq]
 ·have hat':chr s j=c:=by simpa using hat
  refine Q145_L1_run N (fun _=>s) (fun _=>(c:Int)) (fun i=>(i:Int)) j (fun i hi kx=> ?_) (fun kx=> ?_) N (by omega)
  ·have h1:¬chr s i=c:=by simpa using hb i hi
   simp only[Q145_B1,slen,ilt_eq,ieq_eq,Zaq,Xk,show i<s.size by omega,Xf,Xd,Zb (show i<s.size by omega),chk_true',Xb (show ¬(chr s i:Int)=c by omega),Xe,Zc (show i<4611686018427387904 by omega)]
  ·rw[Zcd.2 ⟨j,hj,hat'⟩]
   simp only[Q145_B1,slen,ilt_eq,ieq_eq,Zaq,Xk,hj,Xf,Xd,Zb hj,chk_true',hat']
theorem Zbf {N:Nat} {e:Xo×Xo} (h1:e.1.size<4194304) (h2:e.2.size<4194304) (hN:4194304≤N):Q130 N e=some (recB e,()):=by
 simp only[Q130,Zc1 h1 hN,Zc1 h2 hN,show Q145 N e.1 64=some (hasB e.1 64,()) from ZfY (c:=64) h1 hN,Xa,recB];cases Go.Rx.seq e.1 (⟨#[]⟩:Xo)<;>cases plB e.1<;>cases hasB e.1 35<;>cases decide ((e.1.size:Int)≤160)<;>cases hasB e.1 64<;>cases plB e.2<;>cases hasB e.2 35<;>cases decide ((e.2.size:Int)≤200)<;>rfl
def bts (s:Xo):List UInt8:=s.data.toList
def txt (l:List UInt8):Xo:=⟨l.toArray⟩
theorem Zg (l:List UInt8):bts (txt l)=l:=rfl
theorem Zef {x y:Xo} (h:bts x=bts y):x=y:=ByteArray.ext (Array.ext' h)
theorem ZnK (x:Xo):txt (bts x)=x:=rfl
theorem Zd (s:Xo):s.size=(bts s).length:=rfl
theorem Zb1 {x y:Xo}:Go.Rx.seq x y=decide (x=y):=by
 unfold Go.Rx.seq;rw[ByteArray.toList_eq,ByteArray.toList_eq];by_cases h:x=y
 ·subst h;simp
 ·rw[Xb h,beq_eq_false_iff_ne];exact fun e=>h (Zef e)
theorem Zau (a b:List UInt8):scat (txt a) (txt b)=txt (a++b):=Zef (by simp [scat,bts,txt])
theorem ZeV (a b:Xo):bts (scat a b)=bts a++bts b:=by simp [scat,bts]
theorem ZcT (x:Xo) (l h:Nat):bts (scut x l h)=((bts x).take h).drop l:=by
 simp [scut,bts,List.extract_eq_take_drop,List.drop_take]
theorem Zy {x y:Xo} (h:x.size+y.size<4194304):sfit x y=true:=Xc (by omega)
theorem Zfu (s:Xo) (i:Nat) (h:i<s.size):(bts s)[i]? =some (s[i]?.getD 0):=ZeU s i h
theorem ZnL {s:Xo} {c:UInt8}:c∈bts s↔hasB s c.toNat=true:=by
 rw[Zcd];constructor
 ·intro hb
  obtain ⟨i,hi,e⟩:=List.mem_iff_getElem.1 hb;have hi':i<s.size:=hi;have h1:=Zfu s i hi';rw[List.getElem?_eq_getElem hi,Option.some.injEq,e] at h1;exact ⟨i,hi',by unfold chr;rw[←h1]⟩
 ·rintro ⟨i,hi,e⟩
  have h1:=Zfu s i hi;have e2:s[i]?.getD 0=c:=UInt8.toNat_inj.1 e;rw[e2] at h1;exact List.mem_of_getElem? h1
def csN (l:List UInt8):Nat:=l.foldl (fun h b=>(41*h+b.toNat+1) % 999979) 7
theorem Zo2 (l:List UInt8):∀h:Nat,h<999979→l.foldl (fun h b=>(41*h+b.toNat+1) % 999979) h<999979:=by
 induction l with
 | nil=>exact fun h hh=>hh
 | cons b l ih=>exact fun h _=>ih _ (Nat.mod_lt _ (by omega))
theorem Zg8 (l:List UInt8):csN l<999979:=Zo2 l 7 (by omega)
theorem Zo3 (s:Xo) (i:Nat) (h:i<s.size):csN ((bts s).take (i+1))=(41*csN ((bts s).take i)+chr s i+1) % 999979:=by
 have hl:i<(bts s).length:=h;have h1:=Zfu s i h;rw[List.getElem?_eq_getElem hl,Option.some.injEq] at h1;unfold csN;rw[List.take_succ_eq_append_getElem hl,List.foldl_append,h1];rfl
theorem ZnM {s:Xo} {i:Nat} (h:i<s.size):irem (iadd .i64 (iadd .i64 (imul .i64 41 (csN ((bts s).take i):Nat)) (icv .i64 (sbyte s i))) 1) 999979=((csN ((bts s).take (i+1)):Nat):Int):=by
 have h1:=Zg8 ((bts s).take i);have h2:=ZlG s i;have e1:imul .i64 41 (csN ((bts s).take i):Nat)=41*((csN ((bts s).take i):Nat):Int):=ZV (by omega) (by omega);have e2:iadd .i64 (41*((csN ((bts s).take i):Nat):Int)) (chr s i:Int)=41*((csN ((bts s).take i):Nat):Int)+(chr s i:Int):=Zh (by omega) (by omega);have e3:iadd .i64 (41*((csN ((bts s).take i):Nat):Int)+(chr s i:Int)) 1=41*((csN ((bts s).take i):Nat):Int)+(chr s i:Int)+1:=Zh (by omega) (by omega);rw[Zaq,Zg7 _ h2,e1,e2,e3,Zo3 s i h];simp only[irem];rw[Int.tmod_eq_emod_of_nonneg (by omega)];omega
theorem ZiS {N:Nat} {s:Xo} (hs:s.size<4194304) (hN:4194304≤N):Q146 N s=some (((csN (bts s):Nat):Int),()):=by
 simp only[Q146];refine (Q146_L1_run N (fun _=>s) (fun i=>((csN ((bts s).take i):Nat):Int)) (fun i=>(i:Int)) s.size (fun i hi kx=> ?_) (fun kx=> ?_) N (by omega))
 ·simp only[Q146_B1,slen,ilt_eq,Xk,hi,Xf,Xd,Zb hi,chk_true',show ine 999979 0=true from rfl,ZnM hi,Zc (show i<4611686018427387904 by omega)]
 ·simp only[Q146_B1,Q146_K1,slen,ilt_eq,Xn,Xg,Xe,Zd,List.take_length]
theorem Zc2 {N:Nat} {s:Xo} (hs:s.size<4194304) (hN:4194304≤N):Q57 N s=some (((csN (bts s):Nat):Int),()):=by
 simp only[Q57];refine (Q57_L1_run N (fun _=>s) (fun i=>((csN ((bts s).take i):Nat):Int)) (fun _=>slen s) (fun i=>(i:Int)) s.size (fun i hi kx=> ?_) (fun kx=> ?_) N (by omega))
 ·simp only[Q57_B1,slen,ilt_eq,Xk,hi,Xf,Xd,Zb hi,chk_true',show ine 999979 0=true from rfl,ZnM hi,Zc (show i<4611686018427387904 by omega)]
 ·simp only[Q57_B1,Q57_K1,slen,ilt_eq,Xn,Xg,Xe,Zd,List.take_length]
theorem ZiT {d:Nat} (h:d<10):scut (⟨#[48,49,50,51,52,53,54,55,56,57]⟩:Xo) (d:Int) (((d+1:Nat)):Int)=txt [UInt8.ofNat (48+d)]:=by
 refine Zef ?_;rw[ZcT];have:d=0∨d=1∨d=2∨d=3∨d=4∨d=5∨d=6∨d=7∨d=8∨d=9:=by omega
 rcases this with rfl | rfl | rfl | rfl | rfl | rfl | rfl | rfl | rfl | rfl<;>rfl
theorem Zg9 (u:Nat):∀d:Nat,u<10 ^ (d+1)→(Lib.decDigits u).length≤d+1:=by
 intro d
 induction d generalizing u with
 | zero=>intro h;rw[Lib.decDigits_one (by omega)];simp
 | succ d ih=>
  intro h;rw[Lib.decDigits];by_cases c:u<10
  ·rw[dif_pos c];simp
  ·rw[dif_neg c,Xm]
   have:=ih (u / 10) (by rw[Nat.pow_succ] at h;omega)
   simp;omega
theorem ZnN (N:Nat):∀(d u m:Nat),u<10 ^ (d+1)→d≤17→d+1≤m→Q140_R N m (u:Int)=some (txt (Lib.decDigits u),()):=by
 intro d
 induction d with
 | zero=>
  intro u m h _ hm;obtain ⟨q,rfl⟩:∃q,m=q+1:=⟨m - 1,by omega⟩
  have hu:u<10:=by omega
  rw[Q140_R_succ];simp only[Q140_F,ilt_eq,Xb (show ¬(u:Int)<0 by omega),Xc (show (u:Int)<10 by omega),Xe,Xd,Zc (show u<4611686018427387904 by omega)];rw[ZA (by omega) (by omega) (by show ((u+1:Nat):Int)≤((10:Nat):Int);omega),chk_true',ZiT hu,Lib.decDigits_one hu]
 | succ d ih=>
  intro u m h hd hm;obtain ⟨q,rfl⟩:∃q,m=q+1:=⟨m - 1,by omega⟩
  by_cases hu:u<10
  ·rw[Q140_R_succ]
   simp only[Q140_F,ilt_eq,Xb (show ¬(u:Int)<0 by omega),Xc (show (u:Int)<10 by omega),Xe,Xd,Zc (show u<4611686018427387904 by omega)];rw[ZA (by omega) (by omega) (by show ((u+1:Nat):Int)≤((10:Nat):Int);omega),chk_true',ZiT hu,Lib.decDigits_one hu]
  ·have hb:(10:Nat) ^ (d+1+1)≤10 ^ 19:=Nat.pow_le_pow_right (by omega) (by omega)
   have hb2:(10:Nat) ^ 19=10000000000000000000:=by decide
   have hdl:=Zg9 (u / 10) d (by rw[Nat.pow_succ] at h;omega)
   have hq:iquo .i64 (u:Int) 10=((u / 10:Nat):Int):=by
    simp only[iquo];rw[Int.tdiv_eq_ediv_of_nonneg (by omega),Zcg (by omega) (by omega)];omega
   have hr:irem (u:Int) 10=((u % 10:Nat):Int):=by
    simp only[irem];rw[Int.tmod_eq_emod_of_nonneg (by omega)];omega
   have h10:u % 10<10:=Nat.mod_lt _ (by omega);rw[Q140_R_succ];simp only[Q140_F,ilt_eq,Xb (show ¬(u:Int)<0 by omega),Xb (show ¬(u:Int)<10 by omega),Xe,show ine 10 0=true from rfl,chk_true',hq,ih (u / 10) q (by rw[Nat.pow_succ] at h;omega) (by omega) (by omega),Xa,hr,Zc (show u % 10<4611686018427387904 by omega)]
   rw[ZA (by omega) (by omega) (by show ((u % 10+1:Nat):Int)≤((10:Nat):Int);omega),chk_true',ZiT h10]
   rw[Zy (by rw[Zd,Zd,Zg,Zg];simp;omega),chk_true',Zau]
   conv=>rhs;rw[Lib.decDigits,dif_neg hu]
def numT (n:Int):List UInt8:=Lib.itoa n
theorem ZcU (u:Nat):numT (u:Int)=Lib.decDigits u:=Lib.itoa_nonneg u
theorem Zu {N:Nat} {n:Int} (h1: -1000000000000000000<n) (h2:n<1000000000000000000) (hN:4194304≤N):Q140 N n=some (txt (numT n),()):=by
 simp only[Q140];by_cases hn:n<0
 ·obtain ⟨u,rfl⟩:∃u:Nat,n= -(u:Int):=⟨n.natAbs,by omega⟩
  obtain ⟨q,rfl⟩:∃q,N=q+1:=⟨N - 1,by omega⟩
  have hdl:=Zg9 u 17 (by omega);rw[Q140_R_succ];simp only[Q140_F,ilt_eq,Xc hn,Xd,Zv (show -9223372036854775808≤0 - -(u:Int) by omega) (by omega),show (0:Int) - -(u:Int)=(u:Int) by omega,ZnN (q+1) 17 u q (by omega) (by omega) (by omega),Xa];rw[show (⟨#[45]⟩:Xo)=txt [45] from rfl,Zy (by rw[Zd,Zd,Zg,Zg];simp;omega),chk_true',Zau]
  unfold numT;rw[Lib.itoa_neg u (by omega)];rfl
 ·obtain ⟨u,rfl⟩:∃u:Nat,n=(u:Int):=⟨n.toNat,by omega⟩
  rw[ZnN N 17 u N (by omega) (by omega) (by omega),ZcU]
theorem Zar {N:Nat} {n:Int} (h1: -1000000000000000000<n) (h2:n<1000000000000000000):strconv_Itoa N n=some (txt (numT n),()):=by
 simp only[strconv_Itoa,Xc (show -9223372036854775808≤n by omega),Xc (show n≤9223372036854775807 by omega),Bool.and_self,chk_true',numT];rfl
theorem Zha (u:Nat):∀c∈Lib.decDigits u,48≤c.toNat∧c.toNat≤57:=by
 induction u using Nat.strongRecOn with
 | _ u ih=>
  intro c hc;have key:∀d:Nat,d<10→(UInt8.ofNat (48+d)).toNat=48+d:=fun d hd=>by
   rw[UInt8.toNat_ofNat'];omega
  rw[Lib.decDigits] at hc;by_cases hu:u<10
  ·rw[dif_pos hu,List.mem_singleton] at hc
   subst hc;rw[key u hu];omega
  ·rw[dif_neg hu,List.mem_append,List.mem_singleton] at hc
   rcases hc with hc | rfl
   ·exact ih (u / 10) (by omega) c hc
   ·rw[key _ (Nat.mod_lt _ (by omega))];omega
def sealT (t:List UInt8):List UInt8:=t++[35]++numT (csN t)
def textT (k:Int) (a b:List UInt8):List UInt8:=numT k++[32]++a++[64]++b
def lineT (k:Int) (a b:List UInt8):List UInt8:=sealT (textT k a b)++[10]
theorem ZJ {k:Int} (h0:0≤k) (h1:k<1000000):(numT k).length≤6:=by
 obtain ⟨u,rfl⟩:∃u:Nat,k=(u:Int):=⟨k.toNat,by omega⟩
 rw[ZcU];exact Zg9 u 5 (by omega)
theorem Zht {N:Nat} {t:List UInt8} (ht:t.length<4000000) (hN:4194304≤N):Q143 N (txt t)=some (txt (sealT t),()):=by
 have h1:=Zg8 t;have h2:=ZJ (k:=(csN t:Nat)) (by omega) (by omega);have hsz:(txt t).size=t.length:=rfl;simp only[Q143,show (⟨#[35]⟩:Xo)=txt [35] from rfl];rw[Zy (by rw[Zd,Zd,Zg,Zg];simp;omega),chk_true',ZiS (by rw[hsz];omega) hN]
 simp only[Xa,Zg,Zu (n:=(csN t:Nat)) (by omega) (by omega) hN,Zau];rw[Zy (by rw[Zd,Zd,Zg,Zg];simp;omega),chk_true']
 rfl
theorem Zdp {N:Nat} {k:Int} {e:Xo×Xo} (h0:0≤k) (h1:k<1000000) (ha:e.1.size<1000000) (hb:e.2.size<1000000) (hN:4194304≤N):Q120 N k e=some (txt (lineT k (bts e.1) (bts e.2)),()):=by
 obtain ⟨a,b⟩:=e;have h3:=ZJ h0 h1;have ha':(bts a).length<1000000:=ha;have hb':(bts b).length<1000000:=hb;have e1:a=txt (bts a):=rfl;have e2:b=txt (bts b):=rfl;simp only[Q120,Zu (n:=k) (by omega) (by omega) hN,Xa,show (⟨#[32]⟩:Xo)=txt [32] from rfl,show (⟨#[64]⟩:Xo)=txt [64] from rfl,show (⟨#[10]⟩:Xo)=txt [10] from rfl];rw[e1,e2];simp only[Zau,Zg]
 rw[Zy (by rw[Zd,Zd,Zg,Zg];simp;omega),chk_true',Zy (by rw[Zd,Zd,Zg,Zg];simp only[Xm,List.length_singleton];omega),chk_true',
  Zy (by rw[Zd,Zd,Zg,Zg];simp only[Xm,List.length_singleton];omega),chk_true',Zy (by rw[Zd,Zd,Zg,Zg];simp only[Xm,List.length_singleton];omega),chk_true']
 have h5:=Zg8 (textT k (bts a) (bts b));have h4:=ZJ (k:=(csN (textT k (bts a) (bts b)):Nat)) (by omega) (by omega);rw[show numT k++[32]++bts a++[64]++bts b=textT k (bts a) (bts b) from rfl,Zht (by simp only[textT,Xm,List.length_singleton];omega) hN]
 simp only[Xa,Zau];rw[Zy (by rw[Zd,Zd,Zg,Zg];simp only[sealT,Xm,List.length_singleton];simp only[textT,Xm,List.length_singleton] at h4 ⊢;omega),chk_true']
 rfl
theorem ZfI (l:List UInt8) (c:UInt8):Lib.contains l [c]=decide (c∈l):=by
 unfold Lib.contains;rw[Lib.index_one]
 induction l with
 | nil=>rfl
 | cons b l ih=>
  rw[decide_eq_decide] at ih ⊢;have hge:=Lib.indexByte_ge l c;simp only[Lib.indexByte,List.mem_cons];by_cases h:(b==c)=true
  ·rw[if_pos h]
   have:b=c:=by simpa using h
   subst this;simp
  ·rw[if_neg h]
   have hne:¬c=b:=fun e=>h (by simp [e])
   by_cases h2:(Lib.indexByte l c== -1)=true
   ·rw[if_pos h2]
    have h3:Lib.indexByte l c= -1:=by simpa using h2
    simp only[hne,false_or,←ih,h3]
   ·rw[if_neg h2]
    have h3:Lib.indexByte l c≠ -1:=by simpa using h2
    simp only[hne,false_or,←ih];omega
theorem Zc5 {N:Nat} {t:List UInt8} (ht:t.length≤3900) (hn:(35:UInt8)∉t) (hN:4194304≤N):Q3 N (txt t)=some ((txt (sealT t),true),()):=by
 have h1:=Zg8 t;have h2:=ZJ (k:=(csN t:Nat)) (by omega) (by omega);have hsz:(txt t).size=t.length:=rfl
 simp only[Q3,slen,ilt_eq,hsz,Xb (show ¬(4000:Int)<(t.length:Int) by omega),Xe,strings_Contains,shortB,Xc (show t.length<4294967281 by omega),chk_true',Xa,
  show (txt t).data.toList=t from rfl,show (⟨#[35]⟩:Xo)=txt [35] from rfl,show (txt [35]).data.toList=[35] from rfl,ZfI,Xb hn]
 rw[Zy (by rw[Zd,Zd,Zg,Zg];simp;omega),chk_true',Zc2 (by rw[hsz];omega) hN]
 simp only[Xa,Zg,Zar (n:=(csN t:Nat)) (by omega) (by omega),Zau];rw[Zy (by rw[Zd,Zd,Zg,Zg];simp;omega),chk_true']
 have h3:(txt (t++[35]++numT (csN t:Nat))).size=t.length+1+(numT (csN t:Nat)).length:=by rw[Zd,Zg];simp only[Xm,List.length_singleton]
 rw[h3,Xb (by omega)];rfl
structure RecP (e:Xo×Xo):Prop where
 some:e.1≠⟨#[]⟩
 pl1:∀c∈bts e.1,32≤c.toNat∧c.toNat≤126∧c≠35∧c≠64
 n1:(bts e.1).length≤160
 pl2:∀c∈bts e.2,32≤c.toNat∧c.toNat≤126∧c≠35
 n2:(bts e.2).length≤200
theorem ZnO {s:Xo}:plB s=true↔∀c∈bts s,32≤c.toNat∧c.toNat≤126:=by
 rw[Zee];constructor
 ·intro h c hc
  obtain ⟨i,hi,e⟩:=Zcd.1 (ZnL.1 hc);have:=h i hi;omega
 ·intro h i hi
  exact h _ (List.mem_of_getElem? (Zfu s i hi))
theorem ZcV {e:Xo×Xo}:recB e=true↔RecP e:=by
 have hh:∀(s:Xo) (c:UInt8),hasB s c.toNat=false↔c∉bts s:=fun s c=>by rw[ZnL];simp
 simp only[recB,Xh,Bool.not_eq_true',Xi,Zb1,decide_eq_false_iff_not,ZnO];rw[show hasB e.1 35=hasB e.1 (35:UInt8).toNat from rfl,show hasB e.1 64=hasB e.1 (64:UInt8).toNat from rfl,show hasB e.2 35=hasB e.2 (35:UInt8).toNat from rfl,hh,hh,hh];constructor
 ·rintro ⟨h1,h2,h3,h4,h5,h6,h7,h8⟩
  exact ⟨h1,fun c hc=>⟨(h2 c hc).1,(h2 c hc).2,fun e'=>h4 (e'▸hc),fun e'=>h5 (e'▸hc)⟩,by rw[Zd] at h3;omega,fun c hc=>⟨(h6 c hc).1,(h6 c hc).2,fun e'=>h8 (e'▸hc)⟩,by rw[Zd] at h7;omega⟩
 ·rintro ⟨h1,h2,h3,h4,h5⟩
  exact ⟨h1,fun c hc=>⟨(h2 c hc).1,(h2 c hc).2.1⟩,by rw[Zd];omega,fun hc=>(h2 35 hc).2.2.1 rfl,fun hc=>(h2 64 hc).2.2.2 rfl,fun c hc=>⟨(h4 c hc).1,(h4 c hc).2.1⟩,by rw[Zd];omega,fun hc=>(h4 35 hc).2.2 rfl⟩
theorem ZcW {k:Int} (h0:0≤k):∀c∈numT k,48≤c.toNat∧c.toNat≤57:=by
 obtain ⟨u,rfl⟩:∃u:Nat,k=(u:Int):=⟨k.toNat,by omega⟩
 rw[ZcU];exact Zha u
theorem ZnP {k:Int} {e:Xo×Xo} (h0:0≤k) (h:RecP e):(35:UInt8)∉textT k (bts e.1) (bts e.2):=by
 simp only[textT,List.mem_append,List.mem_singleton]
 rintro ((((hc | hc) | hc) | hc) | hc)
 ·have:=(ZcW h0 _ hc).1;simp at this
 ·cases hc
 ·exact (h.pl1 _ hc).2.2.1 rfl
 ·cases hc
 ·exact (h.pl2 _ hc).2.2 rfl
def encT (k:Int) (e:Xo×Xo):Xo×Bool:=if inRg 0 59 k=true∧recB e=true then (txt (lineT k (bts e.1) (bts e.2)),true) else (⟨#[]⟩,false)
theorem ZbC {N:Nat} {k:Int} {e:Xo×Xo} (h1:e.1.size<4194304) (h2:e.2.size<4194304) (hN:4194304≤N):Q25 N k e=some (encT k e,()):=by
 simp only[Q25,Zz,Xa,Zbs h1 h2 hN,encT];cases hk:inRg 0 59 k with
 | false=>rfl
 | true=>
  cases hb:recB e with
  | false=>rfl
  | true=>
   obtain ⟨a,b⟩:=e;have hp:=ZcV.1 hb;simp only[inRg,Xh,Xi] at hk;have n1:(bts a).length≤160:=hp.n1;have n2:(bts b).length≤200:=hp.n2;have e1:a=txt (bts a):=rfl;have e2:b=txt (bts b):=rfl;have h3:=ZJ (k:=k) (by omega) (by omega);have hno:(35:UInt8)∉textT k (bts a) (bts b):=ZnP hk.1 hp;simp only[Bool.not_true,Xe,Zar (n:=k) (by omega) (by omega),Xa,show (⟨#[32]⟩:Xo)=txt [32] from rfl,show (⟨#[64]⟩:Xo)=txt [64] from rfl,show (⟨#[10]⟩:Xo)=txt [10] from rfl];rw[e1,e2];simp only[Zau,Zg]
   rw[Zy (by rw[Zd,Zd,Zg,Zg];simp;omega),chk_true',Zy (by rw[Zd,Zd,Zg,Zg];simp only[Xm,List.length_singleton];omega),chk_true',
    Zy (by rw[Zd,Zd,Zg,Zg];simp only[Xm,List.length_singleton];omega),chk_true',Zy (by rw[Zd,Zd,Zg,Zg];simp only[Xm,List.length_singleton];omega),chk_true']
   have h5:=Zg8 (textT k (bts a) (bts b));have h4:=ZJ (k:=(csN (textT k (bts a) (bts b)):Nat)) (by omega) (by omega);rw[show numT k++[32]++bts a++[64]++bts b=textT k (bts a) (bts b) from rfl,Zc5 (by simp only[textT,Xm,List.length_singleton];omega) hno hN]
   simp only[Xa,Zau];rw[Zy (by rw[Zd,Zd,Zg,Zg];simp only[sealT,Xm,List.length_singleton];simp only[textT,Xm,List.length_singleton] at h4 ⊢;omega),chk_true']
   simp [lineT]
def bef (c:UInt8) (l:List UInt8):List UInt8:=l.takeWhile fun b=>b !=c
def aft (c:UInt8) (l:List UInt8):List UInt8:=(l.dropWhile fun b=>b !=c).drop 1
theorem ZbG (c b:UInt8) (l:List UInt8):bef c (b::l)=if b=c then [] else b::bef c l:=by
 by_cases h:b=c
 ·subst h;simp [bef]
 ·simp [bef,h]
theorem Zgk (c b:UInt8) (l:List UInt8):aft c (b::l)=if b=c then l else aft c l:=by
 by_cases h:b=c
 ·subst h;simp [aft]
 ·simp [aft,h]
theorem ZkL (c:UInt8):∀l:List UInt8,c∉bef c l
 | []=>by simp [bef]
 | b::l=>by
  rw[ZbG];by_cases h:b=c
  ·rw[if_pos h];simp
  ·rw[if_neg h,List.mem_cons]
   rintro (e | e)
   ·exact h e.symm
   ·exact ZkL c l e
theorem Zhb {c:UInt8}:∀ {l:List UInt8},c∈l→l=bef c l++[c]++aft c l
 | [],h=>by cases h
 | b::l,h=>by
  rw[ZbG,Zgk];by_cases e:b=c
  ·subst e;simp
  ·rw[if_neg e,if_neg e]
   have h2:c∈l:=(List.mem_cons.1 h).resolve_left fun e2=>e e2.symm
   have:=Zhb h2;simp only[List.cons_append,List.append_assoc] at this ⊢;rw[←this]
theorem ZiU {c:UInt8}:∀ {l:List UInt8},c∉l→bef c l=l∧aft c l=[]
 | [],_=>⟨rfl,rfl⟩
 | b::l,h=>by
  rw[List.mem_cons,not_or] at h;rw[ZbG,Zgk,if_neg (fun e=>h.1 e.symm),if_neg (fun e=>h.1 e.symm)];obtain ⟨h1,h2⟩:=ZiU h.2;exact ⟨by rw[h1],h2⟩
theorem ZdZ {c:UInt8}:∀ {t r:List UInt8},c∉t→bef c (t++[c]++r)=t∧aft c (t++[c]++r)=r
 | [],r,_=>by simp [ZbG,Zgk]
 | b::t,r,h=>by
  rw[List.mem_cons,not_or] at h;simp only[List.cons_append];rw[ZbG,Zgk,if_neg (fun e=>h.1 e.symm),if_neg (fun e=>h.1 e.symm)];obtain ⟨h1,h2⟩:=ZdZ (r:=r) h.2;exact ⟨by rw[h1],h2⟩
theorem Zeg (c:UInt8) (l:List UInt8):(bef c l).length≤l.length:=(List.takeWhile_prefix _).length_le
theorem ZkM (c:UInt8) (l:List UInt8):(aft c l).length≤l.length:=by
 unfold aft;have:=(List.dropWhile_suffix (l:=l) fun b=>b !=c).length_le
 simp only[List.length_drop];omega
theorem ZiV {c:UInt8} {l:List UInt8} (h:c∈l):l.drop ((bef c l).length+1)=aft c l:=by
 have h1:=Zhb h;have h3:(bef c l++[c]++aft c l).drop ((bef c l).length+1)=aft c l:=by
  rw[List.drop_append,show (bef c l).length+1 - (bef c l++[c]).length=0 by simp,List.drop_eq_nil_of_le (by simp)];simp
 rwa [←h1] at h3
theorem Zp8 (l:List UInt8) (c:UInt8):Lib.cut l [c]=(bef c l,aft c l,decide (c∈l)):=by
 unfold Lib.cut;rw[Lib.index_one];have key:∀l:List UInt8,(0≤Lib.indexByte l c↔c∈l)∧(c∈l→Lib.indexByte l c=((bef c l).length:Int)):=by
  intro l
  induction l with
  | nil=>exact ⟨by simp [Lib.indexByte],fun h=>by cases h⟩
  | cons b l ih=>
   have hge:=Lib.indexByte_ge l c;simp only[Lib.indexByte,List.mem_cons];by_cases h:(b==c)=true
   ·rw[if_pos h]
    have e:b=c:=by simpa using h
    exact ⟨⟨fun _=> .inl e.symm,fun _=>Int.le_refl _⟩,fun _=>by rw[ZbG,if_pos e];rfl⟩
   ·rw[if_neg h]
    have e:¬b=c:=fun e=>h (by simp [e])
    have e':¬c=b:=fun x=>e x.symm
    simp only[e',false_or];by_cases h2:(Lib.indexByte l c== -1)=true
    ·rw[if_pos h2]
     have h3:Lib.indexByte l c= -1:=by simpa using h2
     have h4:c∉l:=fun hc=>by have:=ih.1.2 hc;omega
     exact ⟨⟨fun h=>by omega,fun h=>absurd h h4⟩,fun h=>absurd h h4⟩
    ·rw[if_neg h2]
     have h3:Lib.indexByte l c≠ -1:=by simpa using h2
     have h4:c∈l:=ih.1.1 (by omega);refine ⟨⟨fun _=>h4,fun _=>by omega⟩,fun _=> ?_⟩;rw[ZbG,if_neg e,ih.2 h4];simp
 by_cases h:c∈l
 ·rw[if_pos ((key l).1.2 h),(key l).2 h,Xc h]
  have h1:=Zhb h;have h2:(bef c l++[c]++aft c l).take (bef c l).length=bef c l:=by simp
  have h3:(bef c l++[c]++aft c l).drop ((bef c l).length+1)=aft c l:=by
   rw[List.drop_append,show (bef c l).length+1 - (bef c l++[c]).length=0 by simp,List.drop_eq_nil_of_le (by simp)];simp
  rw[←h1] at h2 h3;simp only[Xj,List.length_singleton,h2,h3]
 ·rw[if_neg (fun h2=>h ((key l).1.1 h2)),Xb h,(ZiU h).1,(ZiU h).2]
theorem Za3 {N:Nat} {l:List UInt8} {c:UInt8} (h:l.length<4294967281):strings_Cut N (txt l) (txt [c])=some ((txt (bef c l),txt (aft c l),decide (c∈l)),()):=by
 simp only[strings_Cut,shortB,show (txt l).size=l.length from rfl,Xc h,chk_true',show (txt l).data.toList=l from rfl,show (txt [c]).data.toList=[c] from rfl,Zp8];rfl
theorem ZbH (x:Xo) (l h:Nat):scut x (l:Int) (h:Int)=txt (((bts x).take h).drop l):=Zef (ZcT x l h)
theorem ZnQ (x:Xo) (l:Nat):scut x (l:Int) (slen x)=txt ((bts x).drop l):=by
 rw[show slen x=(((bts x).length:Nat):Int) from rfl,ZbH,List.take_length]
def spl (c:UInt8):List UInt8→List UInt8→List (List UInt8)
 | a,[]=>[a]
 | a,b::l=>if b=c then a::spl c [] l else spl c (a++[b]) l
theorem Zgl (c:UInt8):∀(l a:List UInt8),gd ((spl c a l).map txt) 0 ⟨#[]⟩=txt (a++bef c l)
 | [],a=>by simp [spl,bef,gd]
 | b::l,a=>by
  rw[spl,ZbG];by_cases h:b=c
  ·rw[if_pos h,if_pos h];simp [gd]
  ·rw[if_neg h,if_neg h,Zgl c l (a++[b])];simp
theorem Zeh (c:UInt8):∀(l a:List UInt8),1≤(spl c a l).length
 | [],a=>by simp [spl]
 | b::l,a=>by
  rw[spl];split
  ·simp
  ·exact Zeh c l _
theorem ZkN (c:UInt8):∀(l a:List UInt8),2≤(spl c a l).length↔c∈l
 | [],a=>by simp [spl]
 | b::l,a=>by
  rw[spl,List.mem_cons];by_cases h:b=c
  ·have:=Zeh c l []
   rw[if_pos h,List.length_cons];exact ⟨fun _=> .inl h.symm,fun _=>by omega⟩
  ·rw[if_neg h,ZkN c l (a++[b])]
   exact ⟨.inr,fun hh=>hh.resolve_left fun e=>h e.symm⟩
theorem ZnR (c:UInt8):∀(l a:List UInt8),(spl c a l).length≤l.length+1
 | [],a=>by simp [spl]
 | b::l,a=>by
  rw[spl];split
  ·have:=ZnR c l [];simp only[List.length_cons];omega
  ·have:=ZnR c l (a++[b]);simp only[List.length_cons];omega
theorem Zms {N:Nat} {s:Xo} {c:UInt8} (hs:(bts s).length<2000000):∀(d i f:Nat) (out:List Xo),i+d=(bts s).length→f≤i→out.length≤i→∀m,d<m→
  Q144_L1 N m s (c.toNat:Int) f i out=some (out++(spl c (((bts s).take i).drop f) ((bts s).drop i)).map txt,()):=by
 intro d
 induction d with
 | zero=>
  intro i f out hi hf ho m hm;obtain ⟨q,rfl⟩:∃q,m=q+1:=⟨m - 1,by omega⟩
  have hil:i=(bts s).length:=by omega
  rw[Q144_L1_succ];simp only[Q144_B1,Q144_K1,show slen s=(((bts s).length:Nat):Int) from rfl,ilt_eq,hil,Xn,Xg,Xe];rw[ZA (by omega) (by omega) (by rw[Zd];omega),chk_true',Zn (by omega) (by omega),chk_true',ZbH,List.take_length,List.drop_length]
  rfl
 | succ d ih=>
  intro i f out hi hf ho m hm;obtain ⟨q,rfl⟩:∃q,m=q+1:=⟨m - 1,by omega⟩
  have hil:i<(bts s).length:=by omega
  have hil':i<s.size:=hil;obtain ⟨x,hx⟩:∃x,(bts s)[i]? =some x:=⟨_,List.getElem?_eq_getElem hil⟩
  have h1:=Zfu s i hil';rw[hx,Option.some.injEq] at h1;have hdr:(bts s).drop i=x::(bts s).drop (i+1):=by
   rw[List.drop_eq_getElem_cons hil];rw[List.getElem?_eq_getElem hil,Option.some.injEq] at hx;rw[hx]
  have htk:(bts s).take (i+1)=(bts s).take i++[x]:=by
   rw[List.take_add_one,hx];rfl
  have hch:chr s i=x.toNat:=by unfold chr;rw[h1]
  rw[Q144_L1_succ,hdr,spl];simp only[Q144_B1,show slen s=(((bts s).length:Nat):Int) from rfl,ilt_eq,ieq_eq,Xk,hil,Xf,Xd,Zb hil',chk_true',Zaq,hch,Zc (show i<4611686018427387904 by omega)];by_cases hc:x=c
  ·rw[if_pos hc,hc,Xc rfl]
   simp only[Xd];rw[ZA (by omega) (by omega) (by rw[Zd];omega),chk_true',Zn (by omega) (by omega),chk_true',ZbH,ih (i+1) (i+1) _ (by omega) (by omega) (by simp;omega) q (by omega)]
   simp
  ·rw[if_neg hc,Xb (fun e=>hc (UInt8.toNat_inj.1 (by omega)))]
   simp only[Xe];rw[ih (i+1) f out (by omega) (by omega) (by omega) q (by omega),htk,List.drop_append_of_le_length (by simp;omega)]
theorem Za4 {N:Nat} {l:List UInt8} {c:UInt8} (hs:l.length<2000000) (hN:4194304≤N):Q144 N (txt l) (c.toNat:Int)=some ((spl c [] l).map txt,()):=by
 simp only[Q144];have:=Zms (N:=N) (s:=txt l) (c:=c) (by rw[Zg];exact hs) l.length 0 0 [] (by rw[Zg];omega) (by omega) (by simp) N (by omega)
 rw[show ((0:Nat):Int)=0 from rfl] at this;rw[this,Zg];simp
theorem ZcX {N:Nat} {t:List UInt8} (ht:t.length<2000000) (hN:4194304≤N):
  Q3 N (txt t)=some ((if t.length≤4000∧(35:UInt8)∉t∧(sealT t).length≤4000 then (txt (sealT t),true) else (⟨#[]⟩,false)),()):=by
 have h1:=Zg8 t;have h2:=ZJ (k:=(csN t:Nat)) (by omega) (by omega);have hsz:(txt t).size=t.length:=rfl;simp only[Q3,slen,ilt_eq,hsz];by_cases c1:t.length≤4000
 ·rw[Xb (show ¬(4000:Int)<(t.length:Int) by omega)]
  simp only[Xe,strings_Contains,shortB,hsz,Xc (show t.length<4294967281 by omega),chk_true',Xa,
   show (txt t).data.toList=t from rfl,show (⟨#[35]⟩:Xo)=txt [35] from rfl,show (txt [35]).data.toList=[35] from rfl,ZfI]
  by_cases c2:(35:UInt8)∈t
  ·rw[Xc c2,if_neg (fun h=>h.2.1 c2)];rfl
  ·rw[Xb c2]
   simp only[Xe];rw[Zy (by rw[Zd,Zd,Zg,Zg];simp;omega),chk_true',Zc2 (by rw[hsz];omega) hN]
   simp only[Xa,Zg,Zar (n:=(csN t:Nat)) (by omega) (by omega),Zau];rw[Zy (by rw[Zd,Zd,Zg,Zg];simp;omega),chk_true']
   have h3:(txt (t++[35]++numT (csN t:Nat))).size=(sealT t).length:=rfl;rw[h3];by_cases c3:(sealT t).length≤4000
   ·rw[Xb (show ¬(4000:Int)<((sealT t).length:Int) by omega),if_pos ⟨c1,c2,c3⟩];rfl
   ·rw[Xc (show (4000:Int)<((sealT t).length:Int) by omega),if_neg (fun h=>c3 h.2.2)];rfl
 ·rw[Xc (show (4000:Int)<(t.length:Int) by omega),if_neg (fun h=>c1 h.1)];rfl
def verB (l:List UInt8):Bool:=decide ((bef 35 l).length≤4000∧(sealT (bef 35 l)).length≤4000∧sealT (bef 35 l)=l)
theorem Zc6 {N:Nat} {l:List UInt8} (ht:l.length<2000000) (hN:4194304≤N):
  Q52 N (txt l)=some ((if verB l=true then (txt (bef 35 l),true) else (⟨#[]⟩,false)),()):=by
 have hb:=Zeg 35 l;simp only[Q52,show (⟨#[35]⟩:Xo)=txt [35] from rfl,Za3 (c:=35) (show l.length<4294967281 by omega),Xa,ZcX (show (bef 35 l).length<2000000 by omega) hN,ZkL,not_false_eq_true,true_and,verB,Xi];by_cases c:(bef 35 l).length≤4000∧(sealT (bef 35 l)).length≤4000
 ·rw[if_pos c]
  simp only[Zb1,Bool.not_true,Xe];by_cases c2:sealT (bef 35 l)=l
  ·rw[if_pos ⟨c.1,c.2,c2⟩,c2,Xc rfl];rfl
  ·rw[if_neg (fun h=>c2 h.2.2),Xb (fun e=>c2 (by rw[←Zg (sealT (bef 35 l)),e,Zg]))];rfl
 ·rw[if_neg c,if_neg (fun h=>c ⟨h.1,h.2.1⟩)];rfl
def parI (l:List UInt8):Xo×Xo:=(txt (bef 64 (aft 32 (if verB l=true then bef 35 l else []))),txt (aft 64 (aft 32 (if verB l=true then bef 35 l else []))))
def decI (k:Nat) (l:List UInt8):Option (Xo×Xo):=if encT k (parI l)=(txt (l++[10]),true) then some (parI l) else none
structure Line (k:Nat) (l:List UInt8) (e:Xo×Xo):Prop where
 hk:k<60
 hr:RecP e
 heq:lineT k (bts e.1) (bts e.2)=l++[10]
theorem ZkO {a b:List UInt8} (h:txt a=txt b):a=b:=by rw[←Zg a,h,Zg]
theorem Line.sealed {k:Nat} {l:List UInt8} {e:Xo×Xo} (h:Line k l e):l=sealT (textT k (bts e.1) (bts e.2)):=by
 have:=h.heq;unfold lineT at this;exact ((List.append_inj_left' this rfl)).symm
theorem Line.text {k:Nat} {l:List UInt8} {e:Xo×Xo} (h:Line k l e):bef 35 l=textT k (bts e.1) (bts e.2):=by
 rw[h.sealed];exact (ZdZ (ZnP (by omega) h.hr)).1
theorem Line.len {k:Nat} {l:List UInt8} {e:Xo×Xo} (h:Line k l e):(textT k (bts e.1) (bts e.2)).length≤400∧l.length≤410:=by
 have h1:=h.hr.n1;have h2:=h.hr.n2;have h3:=ZJ (k:=(k:Int)) (by omega) (by have:=h.hk;omega)
 have h4:=Zg8 (textT k (bts e.1) (bts e.2));have h5:=ZJ (k:=(csN (textT k (bts e.1) (bts e.2)):Nat)) (by omega) (by omega);have h6:(textT k (bts e.1) (bts e.2)).length≤400:=by simp only[textT,Xm,List.length_singleton];omega
 refine ⟨h6, ?_⟩;rw[h.sealed];simp only[sealT,Xm,List.length_singleton];omega
theorem Line.ver {k:Nat} {l:List UInt8} {e:Xo×Xo} (h:Line k l e):verB l=true:=by
 have h1:=h.len;simp only[verB,Xi,h.text,←h.sealed,and_true];omega
theorem Line.parI {k:Nat} {l:List UInt8} {e:Xo×Xo} (h:Line k l e):parI l=e:=by
 have h1:(32:UInt8)∉numT k:=fun hc=>by have:=(ZcW (show (0:Int)≤k by omega) _ hc).1;simp at this
 have h2:(64:UInt8)∉bts e.1:=fun hc=>(h.hr.pl1 _ hc).2.2.2 rfl
 have h3:aft 32 (textT k (bts e.1) (bts e.2))=bts e.1++[64]++bts e.2:=by
  unfold textT;rw[List.append_assoc,List.append_assoc (numT k++[32])];rw[(ZdZ h1).2];simp
 unfold Px.parI;rw[if_pos h.ver,h.text,h3,(ZdZ h2).1,(ZdZ h2).2];rfl
theorem ZeW {k:Nat} {l:List UInt8} {e:Xo×Xo}:decI k l=some e↔Line k l e:=by
 constructor
 ·intro h
  unfold decI at h;split at h
  ·rename_i h1
   cases h;unfold encT at h1;split at h1
   ·rename_i h2
    have h3:=ZkO (Prod.mk.inj h1).1;have h4:=h2.1;simp only[inRg,Xh,Xi] at h4;exact ⟨by omega,ZcV.1 h2.2,h3⟩
   ·cases (Prod.mk.inj h1).2
  ·cases h
 ·intro h
  have h1:inRg 0 59 (k:Int)=true:=by have:=h.hk;simp only[inRg,Xh,Xi];omega
  unfold decI;rw[h.parI,if_pos];unfold encT;rw[if_pos ⟨h1,ZcV.2 h.hr⟩,h.heq]
theorem Zgm {k:Nat} {e:Xo×Xo}:(textT k (bts e.1) (bts e.2)).take (numT k++[32]).length=numT k++[32]∧(textT k (bts e.1) (bts e.2)).drop (numT k++[32]).length=bts e.1++[64]++bts e.2:=by
 unfold textT;rw[List.append_assoc,List.append_assoc (numT k++[32])];exact ⟨List.take_left ..,by rw[List.drop_left];simp⟩
theorem Zfv {N:Nat} {l:List UInt8} {k:Nat} (hl:l.length<1000000) (hk:k<60) (hN:4194304≤N):
  ∃e b,Q113 N (txt l) k=some ((e,b),())∧(b=true→decI k l=some e)∧(b=false→decI k l=none):=by
 have hb:=Zeg 35 l;have hn:=ZJ (k:=(k:Int)) (by omega) (by omega);have ha:(numT k++[32]).length=(numT k).length+1:=by simp
 have none_of:(∀e,¬Line k l e)→decI k l=none:=fun h=>by
  cases hd:decI k l with
  | none=>rfl
  | some e=>exact absurd (ZeW.1 hd) (h e)
 have hsp:0<((spl 35 [] l).map txt).length:=by have:=Zeh 35 l [];simp;omega
 simp only[Q113,Zu (n:=(k:Int)) (by omega) (by omega) hN,Xa,show (⟨#[32]⟩:Xo)=txt [32] from rfl,Zau];rw[Zy (by rw[Zd,Zd,Zg,Zg];simp;omega),chk_true',show (35:Int)=((35:UInt8).toNat:Int) from rfl,Za4 (c:=35) (by omega) hN]
 simp only[Xa];rw[show (0:Int)=((0:Nat):Int) from rfl,Zb hsp,chk_true',show ((0:Nat):Int)=0 from rfl];simp only[Zgl,List.nil_append,show ∀x:List UInt8,slen (txt x)=(x.length:Int) from fun _=>rfl,ilt_eq];by_cases c1:(bef 35 l).length<(numT k++[32]).length
 ·rw[Xc (by omega)]
  refine ⟨_,_,rfl,(fun h=>by cases h),fun _=>none_of fun e he=> ?_⟩;have:=he.text;have h2:=(Zgm (k:=k) (e:=e)).1;rw[this] at c1;have h3:=congrArg List.length h2;rw[List.length_take] at h3;omega
 rw[Xb (by omega)];simp only[Xe];rw[ZA (by omega) (by omega) (by show _≤((bef 35 l).length:Int);omega),chk_true',show (0:Int)=((0:Nat):Int) from rfl,ZbH,Zg,List.drop_zero]
 simp only[Zb1];rcases (Classical.em ((bef 35 l).take (numT k++[32]).length=numT k++[32])).symm with c2 | c2
 ·rw[Xb (fun e=>c2 (ZkO e))]
  refine ⟨_,_,rfl,(fun h=>by cases h),fun _=>none_of fun e he=>c2 ?_⟩;rw[he.text];exact (Zgm (k:=k) (e:=e)).1
 rw[Xc (by rw[c2])];simp only[Bool.not_true,Xe];rw[ZA (by omega) (by omega) (by show _≤((bef 35 l).length:Int);omega),chk_true',ZbH,Zg,List.take_length]
 generalize hR:(bef 35 l).drop (numT k++[32]).length=R;have hRl:R.length<1000000:=by rw[←hR,List.length_drop];omega
 have hb2:=Zeg 64 R;have hsp2:0<((spl 64 [] R).map txt).length:=by have:=Zeh 64 R [];simp;omega
 rw[show (64:Int)=((64:UInt8).toNat:Int) from rfl,Za4 (c:=64) (by omega) hN];simp only[Xa];rw[Zb hsp2,chk_true'];simp only[Zgl,List.nil_append,ieq_eq,show ∀x:List UInt8,slen (txt x)=(x.length:Int) from fun _=>rfl];by_cases c3:(bef 64 R).length=R.length
 ·rw[Xc (by omega)]
  refine ⟨_,_,rfl,(fun h=>by cases h),fun _=>none_of fun e he=> ?_⟩;have h2:=(Zgm (k:=k) (e:=e)).2;rw[←he.text,hR] at h2;have h3:(64:UInt8)∉bts e.1:=fun hc=>(he.hr.pl1 _ hc).2.2.2 rfl
  rw[h2,(ZdZ h3).1] at c3;simp only[Xm,List.length_singleton] at c3;omega
 have h64:(64:UInt8)∈R:=by
  by_cases h:(64:UInt8)∈R
  ·exact h
  ·exact absurd (congrArg List.length (ZiU h).1) c3
 have hlt:(bef 64 R).length+1≤R.length:=by omega
 rw[Xb (by omega),Zh (by omega) (by omega),show ((bef 64 R).length:Int)+1=(((bef 64 R).length+1:Nat):Int) by omega];simp only[Xe];rw[ZA (by omega) (by omega) (by show _≤(R.length:Int);omega),chk_true',ZbH,Zg,List.take_length]
 have hdr:R.drop ((bef 64 R).length+1)=aft 64 R:=ZiV h64;rw[hdr];have haf:=ZkM 64 R;generalize hE:((txt (bef 64 R),txt (aft 64 R)):Xo×Xo)=E;have hE1:E.1.size=(bef 64 R).length:=by rw[←hE];rfl
 have hE2:E.2.size=(aft 64 R).length:=by rw[←hE];rfl
 rw[Zbf (by omega) (by omega) hN];simp only[Xa];have hEq:∀e,Line k l e→E=e:=fun e he=>by
  have h2:=(Zgm (k:=k) (e:=e)).2;rw[←he.text,hR] at h2;have h3:(64:UInt8)∉bts e.1:=fun hc=>(he.hr.pl1 _ hc).2.2.2 rfl
  rw[←hE,h2,(ZdZ h3).1,(ZdZ h3).2];rfl
 cases hrec:recB E with
 | false=>
  refine ⟨_,_,rfl,(fun h=>by cases h),fun _=>none_of fun e he=> ?_⟩;rw[hEq e he] at hrec;rw[ZcV.2 he.hr] at hrec;cases hrec
 | true=>
  have hp:=ZcV.1 hrec;simp only[Xd];rw[Zdp (e:=E) (by omega) (by omega) (by omega) (by omega) hN];simp only[Xa,show (⟨#[10]⟩:Xo)=txt [10] from rfl];rw[Zy (by rw[Zd,Zd,Zg,Zg];simp;omega),chk_true',Zau]
  by_cases c4:lineT k (bts E.1) (bts E.2)=l++[10]
  ·rw[c4,Xc rfl]
   exact ⟨_,_,rfl,fun _=>ZeW.2 ⟨hk,hp,c4⟩,fun h=>by cases h⟩
  ·rw[Xb (fun e=>c4 (ZkO e))]
   refine ⟨_,_,rfl,(fun h=>by cases h),fun _=>none_of fun e he=>c4 ?_⟩;rw[hEq e he];exact he.heq
def nxR (k:Nat) (l:List UInt8):Option (Xo×Xo):=if (10:UInt8)∈l then decI k (bef 10 l) else none
def rdR:Nat→Nat→List UInt8→List (Xo×Xo)
 | 0,_,_=>[]
 | n+1,k,l=>match nxR k l with
  | some e=>e::rdR n (k+1) (aft 10 l)
  | none=>[]
def rdE:Nat→Nat→List UInt8→Nat→List Nat
 | 0,_,_,_=>[]
 | n+1,k,l,a=>match nxR k l with
  | some _=>(a+((bef 10 l).length+1))::rdE n (k+1) (aft 10 l) (a+((bef 10 l).length+1))
  | none=>[]
def rdC:Nat→Nat→List UInt8→Nat
 | 0,_,_=>0
 | n+1,k,l=>match nxR k l with
  | some _=>(bef 10 l).length+1+rdC n (k+1) (aft 10 l)
  | none=>0
theorem ZnS {k:Nat} {l:List UInt8} {e:Xo×Xo} (h:nxR k l=some e):(10:UInt8)∈l∧decI k (bef 10 l)=some e:=by
 unfold nxR at h;split at h
 ·rename_i h1;exact ⟨h1,h⟩
 ·cases h
theorem Zp9 (n k:Nat) (l:List UInt8) (a:Nat):(rdE n k l a).length=(rdR n k l).length:=by
 induction n generalizing k l a with
 | zero=>rfl
 | succ n ih=>
  simp only[rdE,rdR];cases nxR k l with
  | none=>rfl
  | some e=>simp [ih]
theorem Zfw (n k:Nat) (l:List UInt8):(rdR n k l).length≤n:=by
 induction n generalizing k l with
 | zero=>simp [rdR]
 | succ n ih=>
  simp only[rdR];cases nxR k l with
  | none=>simp
  | some e=>have:=ih (k+1) (aft 10 l);simp;omega
theorem Zj1 {l:List UInt8} (h:(10:UInt8)∈l):l.length=(bef 10 l).length+1+(aft 10 l).length:=by
 have:=congrArg List.length (Zhb h);simp at this;omega
theorem Zo4 (n k:Nat) (l:List UInt8) (a:Nat):(a::rdE n k l a)[(rdR n k l).length]? =some (a+rdC n k l):=by
 induction n generalizing k l a with
 | zero=>rfl
 | succ n ih=>
  simp only[rdE,rdR,rdC];cases h:nxR k l with
  | none=>simp
  | some e=>
   simp only[List.length_cons,List.getElem?_cons_succ];rw[ih (k+1) (aft 10 l) (a+((bef 10 l).length+1))];simp only[Option.some.injEq];omega
theorem ZqQ (n k:Nat) (l:List UInt8) (a:Nat):∀x∈rdE n k l a,a<x∧x≤a+l.length:=by
 induction n generalizing k l a with
 | zero=>intro x hx;cases hx
 | succ n ih=>
  intro x hx;simp only[rdE] at hx;cases h:nxR k l with
  | none=>rw[h] at hx;cases hx
  | some e=>
   rw[h] at hx;have h1:=Zj1 (ZnS h).1;rcases List.mem_cons.1 hx with rfl | hx
   ·omega
   ·have:=ih (k+1) (aft 10 l) _ x hx;omega
abbrev ints (l:List Nat):List Int:=l.map fun x:Nat=>(x:Int)
theorem ZnT {N:Nat} {s:Xo} (hs:(bts s).length≤1000000) (hN:4194304≤N):∀(n at_:Nat) (v4:List (Xo×Xo)) (v5:List Int),v4.length+n=60→v5.length≤v4.length+1→at_≤(bts s).length→∀m,n<m→
  Q66_L1 N m s (at_:Int) v4 v5=some ((v4++rdR n v4.length ((bts s).drop at_),v5++ints (rdE n v4.length ((bts s).drop at_) at_)),()):=by
 intro n
 induction n with
 | zero=>
  intro at_ v4 v5 h4 h5 ha m hm;obtain ⟨q,rfl⟩:∃q,m=q+1:=⟨m - 1,by omega⟩
  rw[Q66_L1_succ];simp only[Q66_B1,Q66_K1,ilt_eq,len_eq,Xb (show ¬(v4.length:Int)<60 by omega),Xe,rdR,rdE,ints,List.map_nil,List.append_nil]
 | succ n ih=>
  intro at_ v4 v5 h4 h5 ha m hm;obtain ⟨q,rfl⟩:∃q,m=q+1:=⟨m - 1,by omega⟩
  generalize hl:(bts s).drop at_=l;have hll:l.length≤1000000:=by rw[←hl,List.length_drop];omega
  have hbl:=Zeg 10 l;rw[Q66_L1_succ];simp only[Q66_B1,Q66_K1,ilt_eq,len_eq,Xc (show (v4.length:Int)<60 by omega),Xd];rw[show slen s=(((bts s).length:Nat):Int) from rfl,ZA (by omega) (by omega) (by rw[Zd];omega),chk_true',ZbH,List.take_length,hl]
  simp only[show (⟨#[10]⟩:Xo)=txt [10] from rfl,show (⟨#[32]⟩:Xo)=txt [32] from rfl,show (⟨#[64]⟩:Xo)=txt [64] from rfl,Za3 (c:=10) (show l.length<4294967281 by omega),Xa,rdR,rdE,nxR];rcases Classical.em ((10:UInt8)∈l) with h10 | h10
  ·have hbl2:=Zeg 35 (bef 10 l)
   generalize hT:(if verB (bef 10 l)=true then bef 35 (bef 10 l) else [])=T
   have hTl:T.length≤1000000:=by rw[←hT];split<;>(try simp)<;>omega
   have hv:∃b,Q52 N (txt (bef 10 l))=some ((txt T,b),()):=by
    rw[Zc6 (by omega) hN,←hT];split
    ·exact ⟨_,rfl⟩
    ·exact ⟨_,rfl⟩
   obtain ⟨b,hv⟩:=hv;have haf:=ZkM 32 T;have hpar:((txt (bef 64 (aft 32 T)),txt (aft 64 (aft 32 T))):Xo×Xo)=parI (bef 10 l):=by rw[←hT];rfl
   have hb6:=Zeg 64 (aft 32 T);have ha6:=ZkM 64 (aft 32 T);rw[Xc h10,if_pos h10];simp only[Bool.not_true,Xe,hv,Xa,Za3 (c:=32) (show T.length<4294967281 by omega),Za3 (c:=64) (show (aft 32 T).length<4294967281 by omega)];rw[ZbC (by show (bef 64 (aft 32 T)).length<4194304;omega) (by show (aft 64 (aft 32 T)).length<4194304;omega) hN,hpar]
   simp only[Xa,decI,Zb1,Zau];cases he2:(encT (v4.length:Nat) (parI (bef 10 l))).2 with
   | false=>
    rw[if_neg (fun e=>by rw[e] at he2;cases he2)]
    simp only[Bool.not_false,Xd,List.append_nil,ints,List.map_nil]
   | true=>
    simp only[Bool.not_true,Xe];rw[Zy (by rw[Zd,Zd,Zg,Zg];simp;omega),chk_true']
    by_cases he1:(encT (v4.length:Nat) (parI (bef 10 l))).1=txt (bef 10 l++[10])
    ·rw[if_pos (Prod.ext he1 he2),Xc he1]
     simp only[Bool.not_true,Xe];have haf2:=Zj1 h10;have hat:at_+((bef 10 l).length+1)≤(bts s).length:=by
      have:l.length=(bts s).length - at_:=by rw[←hl,List.length_drop]
      omega
     have hw:iadd .i64 (at_:Int) (iadd .i64 (slen (txt (bef 10 l))) 1)=((at_+((bef 10 l).length+1):Nat):Int):=by
      rw[show slen (txt (bef 10 l))=(((bef 10 l).length:Nat):Int) from rfl,Zc (show (bef 10 l).length<4611686018427387904 by omega),Zh (by omega) (by omega)];omega
     have hdr:(bts s).drop (at_+((bef 10 l).length+1))=aft 10 l:=by
      rw[←List.drop_drop,hl,ZiV h10]
     rw[hw,Zn (by omega) (by omega),chk_true',Zn (by omega) (by omega),chk_true',ih _ _ _ (by simp;omega) (by simp;omega) hat q (by omega),hdr]
     simp only[Xm,List.length_singleton,List.append_assoc,List.singleton_append,ints,List.map_cons]
    ·rw[if_neg (fun e=>he1 (Prod.mk.inj e).1),Xb he1]
     simp only[Bool.not_false,Xd,List.append_nil,ints,List.map_nil]
  ·rw[Xb h10,if_neg h10]
   simp only[Bool.not_false,Xd,List.append_nil,ints,List.map_nil]
theorem Zb2 {N:Nat} {s:Xo} (hs:(bts s).length≤1000000) (hN:4194304≤N):Q66 N s=some ((rdR 60 0 (bts s),(0:Int)::ints (rdE 60 0 (bts s) 0)),()):=by
 have:=ZnT hs hN 60 0 [] [0] (by simp) (by simp) (by omega) N (by omega);simp only[Q66];rw[show ((0:Nat):Int)=0 from rfl] at this;rw[this];rfl
theorem ZnU {N:Nat} {s:Xo} (hs:(bts s).length≤900000) (hN:4194304≤N):∀(n at_:Nat) (v4:List (Xo×Xo)),v4.length+n=60→at_≤(bts s).length→∀m,n<m→
  Q126_L1 N m s (at_:Int) v4=some ((v4++rdR n v4.length ((bts s).drop at_),((at_+rdC n v4.length ((bts s).drop at_):Nat):Int)),()):=by
 intro n
 induction n with
 | zero=>
  intro at_ v4 h4 ha m hm;obtain ⟨q,rfl⟩:∃q,m=q+1:=⟨m - 1,by omega⟩
  rw[Q126_L1_succ];simp only[Q126_B1,Q126_K1,ilt_eq,len_eq,Xb (show ¬(v4.length:Int)<60 by omega),Xe,rdR,rdC,List.append_nil,Nat.add_zero];cases decide ((at_:Int)<slen s)<;>rfl
 | succ n ih=>
  intro at_ v4 h4 ha m hm;obtain ⟨q,rfl⟩:∃q,m=q+1:=⟨m - 1,by omega⟩
  generalize hl:(bts s).drop at_=l;have hl2:l.length=(bts s).length - at_:=by rw[←hl,List.length_drop]
  have hbl:=Zeg 10 l;rw[Q126_L1_succ];simp only[Q126_B1,Q126_K1,ilt_eq,len_eq,Xc (show (v4.length:Int)<60 by omega),Xd];rw[show slen s=(((bts s).length:Nat):Int) from rfl];by_cases hat:at_<(bts s).length
  ·rw[Xc (by omega)]
   simp only[Xd];have hsp:0<((spl 10 [] l).map txt).length:=by have:=Zeh 10 l [];simp;omega
   rw[ZA (by omega) (by omega) (by rw[Zd];omega),chk_true',ZbH,List.take_length,hl,show (10:Int)=((10:UInt8).toNat:Int) from rfl,Za4 (c:=10) (by omega) hN]
   simp only[Xa];rw[show (0:Int)=((0:Nat):Int) from rfl,Zb hsp,chk_true'];simp only[Zgl,List.nil_append];obtain ⟨e,b,h1,h2,h3⟩:=Zfv (N:=N) (l:=bef 10 l) (k:=v4.length) (by omega) (by omega) hN;rw[h1];simp only[Xa,List.length_map];by_cases h10:(10:UInt8)∈l
   ·have h11:=(ZkN 10 l []).2 h10
    rw[Xb (by omega)];simp only[Xe,rdR,rdC,nxR,if_pos h10];cases b with
    | false=>rw[h3 rfl];simp
    | true=>
     rw[h2 rfl];simp only[Bool.not_true,Xe];have haf2:=Zj1 h10;have hw:iadd .i64 (iadd .i64 (at_:Int) (slen (txt (bef 10 l)))) 1=((at_+((bef 10 l).length+1):Nat):Int):=by
      have e1:iadd .i64 (at_:Int) (slen (txt (bef 10 l)))=(at_:Int)+((bef 10 l).length:Int):=Zh (by show -9223372036854775808≤(at_:Int)+((bef 10 l).length:Int);omega) (by show (at_:Int)+((bef 10 l).length:Int)<_;omega)
      rw[e1,Zh (by omega) (by omega)];omega
     have hdr:(bts s).drop (at_+((bef 10 l).length+1))=aft 10 l:=by
      rw[←List.drop_drop,hl,ZiV h10]
     rw[hw,Zn (by omega) (by omega),chk_true',ih _ _ (by simp;omega) (by omega) q (by omega),hdr]
     simp only[Xm,List.length_singleton,List.append_assoc,List.singleton_append,chk_true',Option.some.injEq,Prod.mk.injEq,and_true,true_and];omega
   ·have h11:¬2≤(spl 10 [] l).length:=fun h=>h10 ((ZkN 10 l []).1 h)
    rw[Xc (by omega)];simp [rdR,rdC,nxR,h10]
  ·rw[Xb (by omega)]
   have:l=[]:=List.eq_nil_of_length_eq_zero (by omega);subst this;simp [rdR,rdC,nxR]
theorem Zb3 {N:Nat} {s:Xo} (hs:(bts s).length≤900000) (hN:4194304≤N):Q126 N s=some ((rdR 60 0 (bts s),((rdC 60 0 (bts s):Nat):Int)),()):=by
 have:=ZnU hs hN 60 0 [] (by simp) (by omega) N (by omega);simp only[Q126];rw[show ((0:Nat):Int)=0 from rfl] at this;rw[this];simp
theorem Zqa (l:List UInt8):gd ((0:Int)::ints (rdE 60 0 l 0)) (rdR 60 0 l).length 0=((rdC 60 0 l:Nat):Int):=by
 have h:=Zo4 60 0 l 0;have h2:((0:Int)::ints (rdE 60 0 l 0))=ints (0::rdE 60 0 l 0):=rfl;rw[h2,gd,List.getD_eq_getElem?_getD,List.getElem?_map,h];simp
theorem ZlH (l:List UInt8):((0:Int)::ints (rdE 60 0 l 0)).length=(rdR 60 0 l).length+1:=by simp [Zp9]
theorem ZkP {c:UInt8} {D P:List UInt8} (h:c∈D):bef c (D++P)=bef c D∧aft c (D++P)=aft c D++P:=by
 have h1:=Zhb h;have h2:=ZdZ (r:=aft c D++P) (ZkL c D);have h3:bef c D++[c]++(aft c D++P)=D++P:=by
  conv=>rhs;rw[h1]
  simp
 rw[h3] at h2;exact h2
theorem ZlI {c:UInt8}:∀ {D P:List UInt8},c∉D→bef c (D++P)=D++bef c P
 | [],_,_=>rfl
 | b::D,P,h=>by
  rw[List.mem_cons,not_or] at h;rw[List.cons_append,ZbG,if_neg (fun e=>h.1 e.symm),ZlI h.2];rfl
theorem ZnV (n k:Nat) (l:List UInt8) (a:Nat):∀x∈rdE n k l a,a+(bef 10 l).length+1≤x:=by
 intro x hx;cases n with
 | zero=>cases hx
 | succ n=>
  simp only[rdE] at hx;cases h:nxR k l with
  | none=>rw[h] at hx;cases hx
  | some e=>
   rw[h] at hx;rcases List.mem_cons.1 hx with rfl | hx
   ·omega
   ·have:=(ZqQ n (k+1) (aft 10 l) _ x hx).1;omega
theorem Zqb (P:List UInt8):∀(n k:Nat) (D:List UInt8) (a:Nat),rdC n k D=D.length↔a+D.length∈a::rdE n k (D++P) a:=by
 intro n
 induction n with
 | zero=>
  intro k D a;simp only[rdC,rdE,List.mem_singleton];omega
 | succ n ih=>
  intro k D a;by_cases h10:(10:UInt8)∈D
  ·obtain ⟨h1,h2⟩:=ZkP (P:=P) h10
   have h3:nxR k (D++P)=nxR k D:=by unfold nxR;rw[if_pos (List.mem_append_left _ h10),if_pos h10,h1]
   have h4:=Zj1 h10;simp only[rdC,rdE,h3,h1,h2];cases nxR k D with
   | none=>
    simp only[List.mem_singleton];omega
   | some e=>
    simp only[List.mem_cons];have:=ih (k+1) (aft 10 D) (a+((bef 10 D).length+1));rw[List.mem_cons,show a+((bef 10 D).length+1)+(aft 10 D).length=a+D.length by omega] at this;rw[←this];omega
  ·by_cases hD:D=[]
   ·subst hD
    have:nxR k []=none:=by simp [nxR]
    simp [rdC,this]
   ·have h0:0<D.length:=List.length_pos_iff.2 hD
    have h1:nxR k D=none:=by unfold nxR;rw[if_neg h10]
    have h2:a+D.length∉a::rdE (n+1) k (D++P) a:=by
     rw[List.mem_cons,not_or];refine ⟨by omega,fun hx=> ?_⟩;have:=ZnV (n+1) k (D++P) a _ hx;rw[ZlI h10,Xm] at this;omega
    have h3:rdC (n+1) k D=0:=by simp [rdC,h1]
    rw[h3];exact ⟨fun h=>by omega,fun h=>absurd h h2⟩
theorem ZeX {N:Nat} {s:List Int} {v:Int} (hs:s.length<4194304) (hN:4194304≤N):Q90 N s v=some (decide (v∈s),()):=by
 have key:∃r,Q91 N s v=some (r,())∧(0≤r↔v∈s):=by
  simp only[Q91,len_eq];rcases ZZ (fun i=> !decide (v=gd s i 0)) s.length with h | ⟨j,hj,hb,hat⟩
  ·have hh:∀i,i<s.length→¬v=gd s i 0:=fun i hi=>by simpa using h i hi
   refine ⟨-1, ?_,⟨fun h=>by omega,fun hm=> ?_⟩⟩
   ·refine Q91_L1_run N (fun _=>s) (fun _=>v) (fun _=>(s.length:Int)) (fun i=>(i:Int)) s.length (fun i hi kx=> ?_) (fun kx=> ?_) N (by omega)
    ·simp only[Q91_B1,ilt_eq,ieq_eq,Xk,hi,Xf,Xd,Zb hi,chk_true',Xj,Xb (hh i hi),Xe,Zc (show i<4611686018427387904 by omega)]
    ·simp only[Q91_B1,Q91_K1,ilt_eq,Xn,Xg,Xe]
   ·obtain ⟨i,hi,e⟩:=List.mem_iff_getElem.1 hm
    exact absurd (by simp [gd,List.getD_eq_getElem?_getD,hi,e]) (hh i hi)
  ·have hat':v=gd s j 0:=by simpa using hat
   refine ⟨(j:Int), ?_,⟨fun _=>hat'▸ZeG 0 hj,fun _=>by omega⟩⟩;refine Q91_L1_run N (fun _=>s) (fun _=>v) (fun _=>(s.length:Int)) (fun i=>(i:Int)) j (fun i hi kx=> ?_) (fun kx=> ?_) N (by omega)
   ·have h1:¬v=gd s i 0:=by simpa using hb i hi
    simp only[Q91_B1,ilt_eq,ieq_eq,Xk,show i<s.length by omega,Xf,Xd,Zb (show i<s.length by omega),chk_true',Xj,Xb h1,Xe,Zc (show i<4611686018427387904 by omega)]
   ·simp only[Q91_B1,ilt_eq,ieq_eq,Xk,hj,Xf,Xd,Zb hj,chk_true',Xj,Xc hat']
 obtain ⟨r,h1,h2⟩:=key;simp only[Q90,h1,Xa,ile_eq];rw[decide_eq_decide.2 h2]
abbrev Lo:Type:=Xo×Xo×Int
def logB (l:Lo):Bool:=decide (l.1.size+l.2.1.size≤30000) && (decide (rdC 60 0 (bts l.1++bts l.2.1)=l.1.size+l.2.1.size) && (decide (rdC 60 0 (bts l.1)=l.1.size) && decide (l.2.2=((rdR 60 0 (bts l.1++bts l.2.1)).length:Int))))
theorem Zei (a b:Xo):scat a b=txt (bts a++bts b):=Zef (ZeV a b)
theorem Za5 {N:Nat} {l:Lo} (h1:l.1.size<4194304) (h2:l.2.1.size<4194304) (hN:4194304≤N):Q34 N l=some (logB l,()):=by
 obtain ⟨D,P,n⟩:=l;simp only at h1 h2;simp only[Q34,slen,ilt_eq,logB,Zh (show -9223372036854775808≤(D.size:Int)+P.size by omega) (by omega)];by_cases c:D.size+P.size≤30000
 ·have hlen:(bts D++bts P).length=D.size+P.size:=by rw[Xm,Zd,Zd]
  have hR:=Zfw 60 0 (bts D++bts P);rw[Xb (by omega),Xc c,Zei];simp only[Xe];rw[Zy (by omega),chk_true',Zb2 (by rw[Zg];omega) hN]
  simp only[Xa,Zg,len_eq,Xj,Zqa,ieq_eq,Bool.true_and];rw[Zb (by rw[ZlH];omega),chk_true',ZeX (by rw[ZlH];omega) hN]
  have hd:=Zqb (bts P) 60 0 (bts D) 0;rw[Nat.zero_add,←Zd] at hd;have hm:((D.size:Nat):Int)∈(0:Int)::ints (rdE 60 0 (bts D++bts P) 0)↔D.size∈0::rdE 60 0 (bts D++bts P) 0:=by
   rw[show ((0:Int)::ints (rdE 60 0 (bts D++bts P) 0))=ints (0::rdE 60 0 (bts D++bts P) 0) from rfl,List.mem_map];exact ⟨fun ⟨x,hx,e⟩=>(show x=D.size by omega)▸hx,fun h=>⟨_,h,rfl⟩⟩
  have e1:decide (((D.size:Nat):Int)∈(0:Int)::ints (rdE 60 0 (bts D++bts P) 0))=decide (rdC 60 0 (bts D)=D.size):=decide_eq_decide.2 (hm.trans hd.symm);rw[e1];by_cases e2:rdC 60 0 (bts D++bts P)=D.size+P.size
  ·rw[Xc (show ((rdC 60 0 (bts D++bts P):Nat):Int)=(D.size:Int)+P.size by omega),Xc e2]
   cases decide (n=((rdR 60 0 (bts D++bts P)).length:Int))<;>cases decide (rdC 60 0 (bts D)=D.size)<;>rfl
  ·rw[Xb (show ¬((rdC 60 0 (bts D++bts P):Nat):Int)=(D.size:Int)+P.size by omega),Xb e2];rfl
 ·rw[Xc (by omega),Xb c];rfl
theorem ZaM {N:Nat} {l:Lo} (h1:l.1.size<4194304) (h2:l.2.1.size<4194304) (hN:4194304≤N):Q135 N l=some (logB l,()):=by
 obtain ⟨D,P,n⟩:=l;simp only at h1 h2;simp only[Q135,slen,ilt_eq,logB,Zh (show -9223372036854775808≤(D.size:Int)+P.size by omega) (by omega)];by_cases c:D.size+P.size≤30000
 ·have hlen:(bts D++bts P).length=D.size+P.size:=by rw[Xm,Zd,Zd]
  have hlD:(bts D).length=D.size:=rfl;rw[Xb (by omega),Xc c,Zei];simp only[Xe];rw[Zy (by omega),chk_true',Zb3 (by rw[Zg];omega) hN]
  simp only[Xa,Zb3 (s:=D) (by omega) hN,Zg,len_eq,ieq_eq,Bool.true_and];by_cases e2:rdC 60 0 (bts D++bts P)=D.size+P.size
  ·rw[Xc (show ((rdC 60 0 (bts D++bts P):Nat):Int)=(D.size:Int)+P.size by omega),Xc e2]
   by_cases e3:rdC 60 0 (bts D)=D.size
   ·rw[Xc (show ((rdC 60 0 (bts D):Nat):Int)=(D.size:Int) by omega),Xc e3]
    simp only[Xd,Bool.true_and,eq_comm]
   ·rw[Xb (show ¬((rdC 60 0 (bts D):Nat):Int)=(D.size:Int) by omega),Xb e3];rfl
  ·rw[Xb (show ¬((rdC 60 0 (bts D++bts P):Nat):Int)=(D.size:Int)+P.size by omega),Xb e2];rfl
 ·rw[Xc (by omega),Xb c];rfl
theorem ZbO {l:Lo} (h:logB l=true):l.1.size+l.2.1.size≤30000∧0≤l.2.2∧l.2.2≤60:=by
 simp only[logB,Xh,Xi] at h;have:=Zfw 60 0 (bts l.1++bts l.2.1);omega
abbrev noR:Xo×Xo:=(⟨#[]⟩,⟨#[]⟩)
def recsT (l:Lo):List (Xo×Xo)×Bool:=if logB l=true then (rdR 60 0 (bts l.1++bts l.2.1),true) else ([],false)
theorem ZeY {N:Nat} {l:Lo} (h1:l.1.size<4194304) (h2:l.2.1.size<4194304) (hN:4194304≤N):Q41 N l=some (recsT l,()):=by
 simp only[Q41,Za5 h1 h2 hN,Xa,recsT];cases hv:logB l with
 | false=>rfl
 | true=>
  have hs:=(ZbO hv).1;have hlen:(bts l.1++bts l.2.1).length=l.1.size+l.2.1.size:=by rw[Xm,Zd,Zd]
  simp only[Bool.not_true,Xe];rw[Zy (by omega),chk_true',Zei,Zb2 (by rw[Zg];omega) hN]
  rfl
theorem Zhc (x:Xo) (h:Nat):scut x 0 (h:Int)=txt ((bts x).take h):=by
 have:=ZbH x 0 h;rw[List.drop_zero] at this;exact this
def lineOf (k:Int) (e:Xo×Xo):List UInt8:=lineT k (bts e.1) (bts e.2)
def sealOf (k:Int) (e:Xo×Xo):List UInt8:=sealT (textT k (bts e.1) (bts e.2))
theorem ZnW {k:Nat} {e:Xo×Xo} (hk:k<60) (hp:RecP e):Line k (sealOf k e) e:=⟨hk,hp,rfl⟩
theorem Zmt {k:Int} {e:Xo×Xo} (h0:0≤k) (hp:RecP e):∀c∈sealOf k e,32≤c.toNat∧c.toNat≤126:=by
 intro c hc;simp only[sealOf,sealT,textT,List.mem_append,List.mem_singleton] at hc;rcases hc with (((((hc | hc) | hc) | hc) | hc) | hc) | hc
 ·have:=ZcW h0 _ hc;omega
 ·subst hc;decide
 ·have:=hp.pl1 _ hc;omega
 ·subst hc;decide
 ·have:=hp.pl2 _ hc;omega
 ·subst hc;decide
 ·have:=ZcW (k:=((csN (textT k (bts e.1) (bts e.2)):Nat):Int)) (by omega) _ hc;omega
theorem Zqc {k:Int} {e:Xo×Xo} (h0:0≤k) (hp:RecP e):(10:UInt8)∉sealOf k e:=fun h=>by
 have:=(Zmt h0 hp _ h).1;simp at this
theorem Zo5 {k:Nat} {e:Xo×Xo} (hk:k<60) (hp:RecP e):(10:UInt8)∈lineOf k e∧bef 10 (lineOf k e)=sealOf k e∧aft 10 (lineOf k e)=[]:=by
 have h1:lineOf k e=sealOf k e++[10]++[]:=by simp [lineOf,lineT,sealOf]
 rw[h1];have:=ZdZ (r:=[]) (Zqc (k:=(k:Int)) (by omega) hp);exact ⟨by simp,this.1,this.2⟩
theorem Zo6 {k:Nat} {e:Xo×Xo} (hk:k<60) (hp:RecP e):(lineOf k e).length≤411:=by
 have:=(ZnW hk hp).len.2;have h1:lineOf k e=sealOf k e++[10]:=rfl;rw[h1,Xm,List.length_singleton];omega
theorem ZnX (n k:Nat):rdR n k []=[]∧rdC n k []=0:=by
 cases n with
 | zero=>exact ⟨rfl,rfl⟩
 | succ n=>
  have:nxR k []=none:=by simp [nxR]
  exact ⟨by simp [rdR,this],by simp [rdC,this]⟩
theorem ZqR {k:Nat} {B X:List UInt8} (h:(10:UInt8)∈B):nxR k (B++X)=nxR k B:=by
 unfold nxR;rw[if_pos (List.mem_append_left _ h),if_pos h,(ZkP h).1]
theorem Zqd {k:Nat} {B:List UInt8} (h:(10:UInt8)∉B):nxR k B=none:=by unfold nxR;rw[if_neg h]
theorem ZkQ {n k:Nat} {B:List UInt8} (h:nxR k B=none):rdR n k B=[]∧rdC n k B=0:=by
 cases n with
 | zero=>exact ⟨rfl,rfl⟩
 | succ n=>exact ⟨by simp [rdR,h],by simp [rdC,h]⟩
theorem Zqe {e:Xo×Xo} (hp:RecP e):∀(n k:Nat) (B:List UInt8),rdC n k B=B.length→(rdR n k B).length<n→k+n=60→
  rdR n k (B++lineOf ((k+(rdR n k B).length:Nat):Int) e)=rdR n k B++[e]∧rdC n k (B++lineOf ((k+(rdR n k B).length:Nat):Int) e)=(B++lineOf ((k+(rdR n k B).length:Nat):Int) e).length:=by
 intro n
 induction n with
 | zero=>intro k B _ h;omega
 | succ n ih=>
  intro k B hC hR hkn;by_cases h10:(10:UInt8)∈B
  ·have hx:=ZqR (k:=k) (X:=lineOf ((k+(rdR (n+1) k B).length:Nat):Int) e) h10
   have h4:=Zj1 h10;cases hn:nxR k B with
   | none=>
    rw[(ZkQ hn).2] at hC;have:B=[]:=List.eq_nil_of_length_eq_zero hC.symm;rw[this] at h10;cases h10
   | some e0=>
    have r1:rdR (n+1) k B=e0::rdR n (k+1) (aft 10 B):=by simp only[rdR,hn]
    have c1:rdC (n+1) k B=(bef 10 B).length+1+rdC n (k+1) (aft 10 B):=by simp only[rdC,hn]
    rw[c1] at hC;rw[r1,List.length_cons] at hR;obtain ⟨i1,i2⟩:=ih (k+1) (aft 10 B) (by omega) (by omega) (by omega);have hk:k+(rdR (n+1) k B).length=k+1+(rdR n (k+1) (aft 10 B)).length:=by rw[r1,List.length_cons];omega
    rw[hn] at hx;rw[hk] at hx ⊢;obtain ⟨b1,b2⟩:=ZkP (P:=lineOf ((k+1+(rdR n (k+1) (aft 10 B)).length:Nat):Int) e) h10;constructor
    ·simp only[rdR,hx,b2,i1,hn,List.cons_append]
    ·simp only[rdC,hx,b1,b2,i2,Xm];omega
  ·have hn:=Zqd (k:=k) h10
   rw[(ZkQ hn).2] at hC;have:B=[]:=List.eq_nil_of_length_eq_zero hC.symm;subst this;obtain ⟨l1,l2,l3⟩:=Zo5 (k:=k) (by omega) hp;have hd:=ZeW.2 (ZnW (k:=k) (by omega) hp);have hx:nxR k (lineOf (k:Int) e)=some e:=by unfold nxR;rw[if_pos l1,l2,hd]
   have z:=ZnX n (k+1);simp only[(ZnX (n+1) k).1,List.length_nil,Nat.add_zero,List.nil_append];constructor
   ·simp only[rdR,hx,l3,z.1]
   ·simp only[rdC,hx,l2,l3,z.2]
    have h1:lineOf (k:Int) e=sealOf (k:Int) e++[10]:=rfl;rw[h1,Xm,List.length_singleton]
theorem Zqf:∀(n k:Nat) (B:List UInt8),rdC n k B≤411*(rdR n k B).length:=by
 intro n
 induction n with
 | zero=>intro k B;simp [rdC]
 | succ n ih=>
  intro k B;cases hn:nxR k B with
  | none=>rw[(ZkQ hn).2];exact Nat.zero_le _
  | some e0=>
   obtain ⟨h10,hd⟩:=ZnS hn;have hl:=(ZeW.1 hd).len.2;have:=ih (k+1) (aft 10 B);simp only[rdC,rdR,hn,List.length_cons];omega
structure LogP (l:Lo):Prop where
 sz:l.1.size+l.2.1.size≤30000
 rd:rdC 60 0 (bts l.1++bts l.2.1)=(bts l.1++bts l.2.1).length
 du:rdC 60 0 (bts l.1)=(bts l.1).length
 ct:l.2.2=((rdR 60 0 (bts l.1++bts l.2.1)).length:Int)
theorem Zgn {l:Lo}:logB l=true↔LogP l:=by
 simp only[logB,Xh,Xi];constructor
 ·rintro ⟨h1,h2,h3,h4⟩;exact ⟨h1,by rw[h2,Xm];rfl,h3,h4⟩
 ·intro h
  have:=h.rd;rw[Xm] at this;exact ⟨h.sz,this,h.du,h.ct⟩
def appT (l:Lo) (e:Xo×Xo):Lo×Int:=
 if logB l=true∧recB e=true then (if l.2.2=60 then (l,2) else ((l.1,txt (bts l.2.1++lineOf l.2.2 e),l.2.2+1),0)) else (l,1)
theorem ZeZ {l:Lo} {e:Xo×Xo} (hl:logB l=true) (he:recB e=true) (hk:l.2.2≠60):LogP (l.1,txt (bts l.2.1++lineOf l.2.2 e),l.2.2+1)∧rdR 60 0 (bts l.1++(bts l.2.1++lineOf l.2.2 e))=rdR 60 0 (bts l.1++bts l.2.1)++[e]∧(lineOf l.2.2 e).length≤411:=by
 have h:=Zgn.1 hl;have hp:=ZcV.1 he;have hle:=Zfw 60 0 (bts l.1++bts l.2.1);have hct:=h.ct;have hlt:(rdR 60 0 (bts l.1++bts l.2.1)).length<60:=by omega
 obtain ⟨r1,r2⟩:=Zqe hp 60 0 (bts l.1++bts l.2.1) h.rd hlt rfl;have ek:((0+(rdR 60 0 (bts l.1++bts l.2.1)).length:Nat):Int)=l.2.2:=by omega
 rw[ek] at r1 r2;rw[List.append_assoc] at r1 r2;have hln:=Zo6 (k:=(rdR 60 0 (bts l.1++bts l.2.1)).length) hlt hp;rw[←hct] at hln;have hs:=Zqf 60 0 (bts l.1++(bts l.2.1++lineOf l.2.2 e));rw[r1,r2,Xm,Xm] at hs;simp only[Xm,List.length_singleton] at hs;refine ⟨⟨?_,by rw[Zg];exact r2,h.du, ?_⟩,r1,hln⟩
 ·show l.1.size+(txt (bts l.2.1++lineOf l.2.2 e)).size≤30000
  rw[Zd (txt _),Zg,Zd l.1,Xm];omega
 ·show l.2.2+1=_
  rw[Zg,r1,Xm,List.length_singleton];omega
theorem Zao {N:Nat} {l:Lo} {e:Xo×Xo} (h1:l.1.size<4194304) (h2:l.2.1.size<4194304) (s1:e.1.size<4194304) (s2:e.2.size<4194304) (hN:4194304≤N):Q92 N l e=some (appT l e,()):=by
 simp only[Q92,ZaM h1 h2 hN,Xa,Zbf s1 s2 hN,appT];cases hv:logB l with
 | false=>rfl
 | true=>
  have hs:=ZbO hv;cases hr:recB e with
  | false=>rfl
  | true=>
   simp only[Bool.not_true,Xe,ieq_eq];by_cases c:l.2.2=60
   ·rw[Xc c,if_pos ⟨trivial,trivial⟩,if_pos c];rfl
   ·have hp:=ZcV.1 hr
    have n1:=hp.n1;have n2:=hp.n2;have hln:=(ZeZ hv hr c).2.2;rw[Xb c,if_pos ⟨trivial,trivial⟩,if_neg c];simp only[Xe,Zdp (e:=e) (k:=l.2.2) (by omega) (by omega) (by rw[Zd];omega) (by rw[Zd];omega) hN,Xa]
    have e1:lineT l.2.2 (bts e.1) (bts e.2)=lineOf l.2.2 e:=rfl;rw[e1,Zy (by rw[Zd (txt _),Zg];omega),chk_true',Zei,Zg,Zh (by omega) (by omega)]
theorem ZdO {N:Nat} {l:Lo} {e:Xo×Xo} (h1:l.1.size<4194304) (h2:l.2.1.size<4194304) (s1:e.1.size<4194304) (s2:e.2.size<4194304) (hN:4194304≤N):Q4 N l e=some (appT l e,()):=by
 simp only[Q4,Za5 h1 h2 hN,Xa,Zbs s1 s2 hN,ZbC (k:=l.2.2) s1 s2 hN,appT];cases hv:logB l with
 | false=>rfl
 | true=>
  have hs:=ZbO hv;cases hr:recB e with
  | false=>rfl
  | true=>
   simp only[Bool.not_true,Xe,encT,hr,and_true];by_cases c:l.2.2=60
   ·rw[if_neg (by simp [inRg,c]),if_pos trivial,if_pos c];rfl
   ·have hin:inRg 0 59 l.2.2=true:=by simp only[inRg,Xh,Xi];omega
    have hln:=(ZeZ hv hr c).2.2;rw[if_pos hin,if_pos trivial,if_neg c];have e1:lineT l.2.2 (bts e.1) (bts e.2)=lineOf l.2.2 e:=rfl;simp only[Bool.not_true,Xe];rw[e1,Zy (by rw[Zd (txt _),Zg];omega),chk_true',Zei,Zg,Zh (by omega) (by omega)]
def syncT (l:Lo):Lo×Bool:=if logB l=true then ((txt (bts l.1++bts l.2.1),⟨#[]⟩,l.2.2),true) else ((⟨#[]⟩,⟨#[]⟩,0),false)
theorem Zhd {N:Nat} {l:Lo} (h1:l.1.size<4194304) (h2:l.2.1.size<4194304) (hN:4194304≤N):Q107 N l=some (syncT l,()):=by
 simp only[Q107,ZaM h1 h2 hN,Xa,syncT];cases hv:logB l with
 | false=>rfl
 | true=>
  have hs:=ZbO hv;simp only[Bool.not_true,Xe,if_true];rw[Zy (by omega),chk_true',Zei]
theorem Zmu {l:Lo} (_h1:l.1.size+l.2.1.size<4000000):(syncT l).1.1.size+(syncT l).1.2.1.size≤l.1.size+l.2.1.size:=by
 unfold syncT;split
 ·show (txt (bts l.1++bts l.2.1)).size+(⟨#[]⟩:Xo).size≤_
  rw[Zd (txt _),Zg,Xm,←Zd,←Zd];exact Xl _
 ·exact Nat.zero_le _
theorem Zj2 (l:Lo) (e:Xo×Xo):(appT l e).1.1.size+(appT l e).1.2.1.size≤l.1.size+l.2.1.size+411:=by
 unfold appT;split
 ·rename_i h
  split
  ·exact Nat.le_add_right _ _
  ·rename_i c
   have:=(ZeZ h.1 h.2 c).2.2;show l.1.size+(txt (bts l.2.1++lineOf l.2.2 e)).size≤_;rw[Zd (txt _),Zg,Xm,←Zd];omega
 ·exact Nat.le_add_right _ _
theorem ZnY {N:Nat} {c:Cu} {k:Nat} {list:List Xo} (m:Nat) (hl:0<list.length) (hb:∀x,x∈list→x.size≤m) (h:Bud c (k+2)):∃v c',Q84 N c list=some (v,c')∧Bud c' k∧v.size≤m:=by
 obtain ⟨r,c1,e1,b1,v1,v1'⟩:=ZG (N:=N) (list.length:Int) h;have hr:r<list.length:=by omega
 simp only[Q84,len_eq,e1,Xa,Zf (ZaL v1 hr)];exact ⟨_,_,rfl,b1,hb _ (ZeG _ (by omega))⟩
theorem ZfJ {N:Nat} {c:Cu} {k:Nat} (h:Bud c (k+8)):∃e c',Q82 N c=some (e,c')∧Bud c' k∧e.1.size≤20∧e.2.size≤20:=by
 obtain ⟨r1,c1,e1,b1,s1⟩:=ZnY (N:=N) (list:=[(⟨#[115,116,111,99,107]⟩:Xo),(⟨#[111,114,100,101,114,32,48,32,53]⟩:Xo),(⟨#[120]⟩:Xo),(⟨#[110,101,101,100,32,49,32,50]⟩:Xo),(⟨#[48,32,49]⟩:Xo)]) 20 (by decide) (by decide) (h.mono (show k+2+2+2+2≤k+8 by omega));obtain ⟨r2,c2,e2,b2,s2⟩:=ZnY (N:=N) (list:=[(⟨#[]⟩:Xo),(⟨#[51]⟩:Xo),(⟨#[63]⟩:Xo),(⟨#[97,64,98]⟩:Xo),(⟨#[51,32,49,32,50]⟩:Xo)]) 20 (by decide) (by decide) b1;obtain ⟨r3,c3,e3,b3,_⟩:=ZG (N:=N) 24 b2;simp only[Q82,e1,e2,e3,Xa,ieq_eq];by_cases q0:r3=0
 ·obtain ⟨r4,c4,e4,b4,s4⟩:=ZnY (N:=N) (list:=[(⟨#[]⟩:Xo),(⟨#[97,64,98]⟩:Xo),(⟨#[97,35]⟩:Xo),(⟨#[10]⟩:Xo),bstr (List.replicate 3 0)]) 20 (by decide) (by decide) b3
  simp only[Xc q0,Xd,show mkB 3 1=true by decide,chk_true',e4,Xa];exact ⟨_,_,rfl,b4,s4,s2⟩
 by_cases q1:r3=1
 ·obtain ⟨r4,c4,e4,b4,s4⟩:=ZnY (N:=N) (list:=[(⟨#[35]⟩:Xo),(⟨#[10]⟩:Xo),(⟨#[127]⟩:Xo)]) 20 (by decide) (by decide) b3
  simp only[Xb q0,Xc q1,Xd,Xe,e4,Xa];exact ⟨_,_,rfl,b4,s1,s4⟩
 ·simp only[Xb q0,Xb q1,Xe]
  exact ⟨_,_,rfl,b3.mono (by omega),s1,s2⟩
def lsz (l:Lo):Nat:=l.1.size+l.2.1.size
theorem Zmv {N k:Nat} {z:Lo} (hN:4194304≤N):∀d (n:Int),n.toNat=d→d≤100→∀(cu:Cu) (l:Lo),lsz l+500*d≤200000→(0≤l.2.2∧l.2.2≤1000 - d)→Bud cu (k+10*d)→∃out c',(∀m,d<m→Q81_L1 N m n cu z l=some (out,c'))∧Bud c' k∧lsz out≤lsz l+500*d∧0≤out.2.2∧out.2.2≤1000:=by
 intro d
 induction d with
 | zero=>
  intro n hn hd cu l hl hc h;refine ⟨l,cu,fun m hm=> ?_,h.mono (by omega),by omega,hc.1,by omega⟩;obtain ⟨m,rfl⟩:∃q,m=q+1:=⟨m - 1,by omega⟩
  rw[Q81_L1_succ];simp only[Q81_B1,Q81_K1,ilt_eq,Xb (show ¬0<n by omega),Xe]
 | succ d ih=>
  intro n hn hd cu l hl hc h;have hsz:lsz l=l.1.size+l.2.1.size:=rfl;obtain ⟨e,c1,e1,b1,s1,s2⟩:=ZfJ (N:=N) (k:=k+10*d+2) (h.mono (by omega));have ea:=Zao (N:=N) (l:=l) (e:=e) (by omega) (by omega) (by omega) (by omega) hN;have hsm:=Zj2 l e;have hcnt:0≤(appT l e).1.2.2∧(appT l e).1.2.2≤l.2.2+1:=by
   unfold appT;split
   ·split
    ·exact ⟨hc.1,by show l.2.2≤_;omega⟩
    ·exact ⟨by show 0≤l.2.2+1;omega,Int.le_refl _⟩
   ·exact ⟨hc.1,by show l.2.2≤_;omega⟩
  obtain ⟨b,c2,e2,b2⟩:=Zg0 (N:=N) 4 b1;have hn1:isub .i64 n 1=n - 1:=Zv (by omega) (by omega);cases hb:b with
  | true=>
   have es:=Zhd (N:=N) (l:=(appT l e).1) (by omega) (by omega) hN;have hss:=Zmu (l:=(appT l e).1) (by omega);have hsc:0≤(syncT (appT l e).1).1.2.2∧(syncT (appT l e).1).1.2.2≤l.2.2+1:=by
    unfold syncT;split
    ·exact hcnt
    ·exact ⟨Int.le_refl _,by show (0:Int)≤_;omega⟩
   have hz:lsz (syncT (appT l e).1).1≤lsz l+411:=by simp only[lsz];omega
   obtain ⟨out,c',o1,o2,o3,o4⟩:=ih (n - 1) (by omega) (by omega) c2 (syncT (appT l e).1).1 (by omega) ⟨hsc.1,by omega⟩ b2;refine ⟨out,c',fun m hm=> ?_,o2,by omega,o4⟩;obtain ⟨m,rfl⟩:∃q,m=q+1:=⟨m - 1,by omega⟩
   rw[Q81_L1_succ];simp only[Q81_B1,ilt_eq,Xc (show 0<n by omega),Xd,e1,Xa,ea,e2,hb,es,hn1];exact o1 m (by omega)
  | false=>
   have hz:lsz (appT l e).1≤lsz l+411:=by simp only[lsz];omega
   obtain ⟨out,c',o1,o2,o3,o4⟩:=ih (n - 1) (by omega) (by omega) c2 (appT l e).1 (by omega) ⟨hcnt.1,by omega⟩ b2;refine ⟨out,c',fun m hm=> ?_,o2,by omega,o4⟩;obtain ⟨m,rfl⟩:∃q,m=q+1:=⟨m - 1,by omega⟩
   rw[Q81_L1_succ];simp only[Q81_B1,ilt_eq,Xc (show 0<n by omega),Xd,e1,Xa,ea,e2,hb,Xe,hn1];exact o1 m (by omega)
theorem Zo7 {N:Nat} {cu:Cu} {k:Nat} (hN:4194304≤N) (h:Bud cu (k+80)):∃l c',Q81 N cu=some (l,c')∧Bud c' k∧lsz l≤3500∧0≤l.2.2∧l.2.2≤1000:=by
 obtain ⟨r,c1,e1,b1,v1,v2⟩:=ZG (N:=N) (k:=k+10*7) 7 (h.mono (by omega));obtain ⟨out,c',o1,o2,o3,o4⟩:=Zmv (N:=N) (k:=k) (z:=((⟨#[]⟩:Xo),((⟨#[]⟩:Xo),0))) hN r.toNat r rfl (by omega) c1 ((⟨#[]⟩:Xo),((⟨#[]⟩:Xo),0)) (by show 0+_≤_;omega) ⟨Int.le_refl _,by show (0:Int)≤_;omega⟩ (b1.mono (by omega))
 refine ⟨out,c', ?_,o2, ?_,o4⟩
 ·simp only[Q81,e1,Xa];exact o1 N (by omega)
 ·have:lsz ((⟨#[]⟩:Xo),((⟨#[]⟩:Xo),(0:Int)))=0:=rfl
  omega
theorem ZnZ (x:Xo) (l h:Nat):(scut x l h).size≤x.size:=by
 rw[Zd,ZcT,List.length_drop,List.length_take,Zd x];omega
theorem Zj3 {N:Nat} {cu:Cu} {k:Nat} {t w:Xo} (ht:t.size<1000000) (hw:1≤w.size∧w.size≤100) (h:Bud cu (k+6)):∃v c',Q88 N cu t w=some (v,c')∧Bud c' k∧v.size≤t.size+200:=by
 have hcut1:∀x:Xo,1≤x.size→cutB 0 1 x.size=true:=fun x hx=>ZA (by omega) (by omega) (by omega)
 have hsc:∀(x:Xo) (a b:Int),0≤a→0≤b→(scut x a b).size≤x.size:=fun x a b ha hb=>by
  obtain ⟨m,rfl⟩:∃m:Nat,a=m:=⟨a.toNat,by omega⟩
  obtain ⟨q,rfl⟩:∃m:Nat,b=m:=⟨b.toNat,by omega⟩
  exact ZnZ x m q
 simp only[Q88,Zb1];by_cases c:t=⟨#[]⟩
 ·rw[Xc c]
  simp only[Xd,Zf (hcut1 w hw.1)];exact ⟨_,_,rfl,h.mono (by omega),by have:=hsc w 0 1 (by omega) (by omega);omega⟩
 ·have hpos:1≤t.size:=by
   rcases Nat.eq_zero_or_pos t.size with e | e
   ·exact absurd (Zef (y:=⟨#[]⟩) (List.eq_nil_of_length_eq_zero e)) c
   ·exact e
  rw[Xb c];obtain ⟨r0,c0,e0,b0,v0,v0'⟩:=ZG (N:=N) (slen t) (h.mono (show k+2+2+2≤k+6 by omega));obtain ⟨r1,c1,e1,b1,v1,v1'⟩:=ZG (N:=N) (slen w) b0;obtain ⟨r2,c2,e2,b2,v2,v2'⟩:=ZG (N:=N) 3 b1;simp only[slen] at e0 e1 v0' v1';have w1:1≤(scut w r1 (w.size:Int)).size:=by
   obtain ⟨q,rfl⟩:∃m:Nat,r1=m:=⟨r1.toNat,by omega⟩
   rw[Zd,ZcT,List.length_drop,List.length_take,←Zd];omega
  have w2:=hsc w r1 (w.size:Int) v1 (by omega);have w3:=hsc (scut w r1 (w.size:Int)) 0 1 (by omega) (by omega);have t1:=hsc t 0 r0 (by omega) v0;have t2:=hsc t r0 (t.size:Int) v0 (by omega);have t3:=hsc t (r0+1) (t.size:Int) (by omega) (by omega);have hsize:∀x y:Xo,(scat x y).size=x.size+y.size:=fun x y=>by rw[Zd,ZeV,Xm];rfl
  have i1:iadd .i64 r0 1=r0+1:=Zh (by omega) (by omega);have m1:cutB 0 r0 t.size=true:=ZA (by omega) v0 (by omega);have m2:cutB r0 (t.size:Int) t.size=true:=ZA v0 (by omega) (by omega);have m3:cutB (r0+1) (t.size:Int) t.size=true:=ZA (by omega) (by omega) (by omega);have m4:cutB r1 (w.size:Int) w.size=true:=ZA v1 (by omega) (by omega);have f1:sfit (scut t 0 r0) (scut (scut w r1 (w.size:Int)) 0 1)=true:=Zy (by omega);simp only[Xe,slen,e0,e1,e2,Xa,Zf m4,Zf (hcut1 _ w1),ieq_eq,i1,Zf m1,Zf m2,Zf m3,Zf f1];by_cases q0:r2=0
  ·have f2:sfit (scat (scut t 0 r0) (scut (scut w r1 (w.size:Int)) 0 1)) (scut t r0 (t.size:Int))=true:=Zy (by rw[hsize];omega)
   have hz:(scut t 0 r0).size+(scut t r0 (t.size:Int)).size≤t.size:=by
    obtain ⟨q,rfl⟩:∃m:Nat,r0=m:=⟨r0.toNat,by omega⟩
    have a1:(scut t 0 (q:Int)).size≤q:=by rw[Zhc,Zd (txt _),Zg,List.length_take];omega
    have a2:(scut t (q:Int) (t.size:Int)).size≤t.size - q:=by rw[Zd,ZcT,List.length_drop,List.length_take,←Zd];omega
    omega
   simp only[Xc q0,Xd,Zf f2];exact ⟨_,_,rfl,b2,by rw[hsize,hsize];omega⟩
  by_cases q1:r2=1
  ·have f2:sfit (scat (scut t 0 r0) (scut (scut w r1 (w.size:Int)) 0 1)) (scut t (r0+1) (t.size:Int))=true:=Zy (by rw[hsize];omega)
   have hz:(scut t 0 r0).size+(scut t (r0+1) (t.size:Int)).size≤t.size:=by
    obtain ⟨q,rfl⟩:∃m:Nat,r0=m:=⟨r0.toNat,by omega⟩
    have a1:(scut t 0 (q:Int)).size≤q:=by rw[Zhc,Zd (txt _),Zg,List.length_take];omega
    have a2:(scut t ((q:Int)+1) (t.size:Int)).size≤t.size - q:=by
     rw[show (q:Int)+1=((q+1:Nat):Int) by omega,Zd,ZcT,List.length_drop,List.length_take,←Zd];omega
    omega
   simp only[Xb q0,Xc q1,Xd,Xe,Zf f2];exact ⟨_,_,rfl,b2,by rw[hsize,hsize];omega⟩
  ·have f2:sfit (scut t 0 r0) (scut t (r0+1) (t.size:Int))=true:=Zy (by omega)
   have hz:(scut t 0 r0).size+(scut t (r0+1) (t.size:Int)).size≤t.size:=by
    obtain ⟨q,rfl⟩:∃m:Nat,r0=m:=⟨r0.toNat,by omega⟩
    have a1:(scut t 0 (q:Int)).size≤q:=by rw[Zhc,Zd (txt _),Zg,List.length_take];omega
    have a2:(scut t ((q:Int)+1) (t.size:Int)).size≤t.size - q:=by
     rw[show (q:Int)+1=((q+1:Nat):Int) by omega,Zd,ZcT,List.length_drop,List.length_take,←Zd];omega
    omega
   simp only[Xb q0,Xb q1,Xe,Zf f2];exact ⟨_,_,rfl,b2,by rw[hsize];omega⟩
theorem Zn0 {N:Nat} {cu:Cu} {k:Nat} (hN:4194304≤N) (h:Bud cu (k+100)):∃l c',Q77 N cu=some (l,c')∧Bud c' k∧lsz l≤10000:=by
 obtain ⟨l,c1,e1,b1,s1,s2,s3⟩:=Zo7 (N:=N) (k:=k+20) hN (h.mono (by omega));obtain ⟨r,c2,e2,b2,v1,v2⟩:=ZG (N:=N) (k:=k+18) 24 b1;have hsz:lsz l=l.1.size+l.2.1.size:=rfl;simp only[Q77,e1,e2,Xa,ieq_eq];by_cases q0:r=0
 ·simp only[Xc q0,Xd]
  exact ⟨_,_,rfl,b2.mono (by omega),by show l.1.size+l.2.1.size≤_;omega⟩
 by_cases q1:r=1
 ·obtain ⟨v,c3,e3,b3,s4⟩:=Zj3 (N:=N) (k:=k) (t:=l.2.1) (w:=⟨#[35,64,10,48,49]⟩) (by omega) (by decide) (b2.mono (by omega))
  simp only[Xb q0,Xc q1,Xd,Xe,e3,Xa];exact ⟨_,_,rfl,b3,by show l.1.size+v.size≤_;omega⟩
 by_cases q2:r=2
 ·simp only[Xb q0,Xb q1,Xc q2,Xd,Xe,Zf (Zy (x:=l.1) (y:=l.2.1) (by omega))]
  refine ⟨_,_,rfl,b2.mono (by omega), ?_⟩;show (scat l.1 l.2.1).size+l.2.1.size≤_;rw[Zd (scat _ _),ZeV,Xm,←Zd,←Zd];omega
 ·simp only[Xb q0,Xb q1,Xb q2,Xe]
  exact ⟨_,_,rfl,b2.mono (by omega),by omega⟩
theorem Zqg {N:Nat} {code:List Int} (n:Nat) (hn1:1≤n) (hn:n≤200) (hr:RngB code) (hl:code.length≤65536):∃code',Q72 N code n=some (code',())∧(∀i,i<code'.length→0≤gd code' i 0∧gd code' i 0≤255)∧code'.length≤65536:=by
 have key:∀m:Nat,m≤code.length→m≤200→code.length+1 - m≤65536→∃code',(chk (cutB (m:Int) (len code) code.length)<| chk (fitB (0+(cut code (m:Int) (len code)).length) 1)<| chk (fitB ((cut code (m:Int) (len code)).length+1) 1)<| some ((cut code (m:Int) (len code))++[icv .u8 (m:Int)],()))=some (code',())∧(∀i,i<code'.length→0≤gd code' i 0∧gd code' i 0≤255)∧code'.length≤65536:=fun m hm h200 h655=>by
  have e1:(cut code (m:Int) (len code)).length=code.length - m:=by rw[len_eq];exact Zal _ (Xl _)
  have e2:icv .u8 (m:Int)=(m:Int):=by simp only[icv];exact wrap8 (by omega)
  rw[e2,len_eq] at*;rw[ZA (by omega) (by omega) (Int.le_refl _),chk_true',Zn (by omega) (by omega),chk_true',Zn (by omega) (by omega),chk_true'];refine ⟨_,rfl,fun i hi=> ?_,by rw[Xm,e1];simp;omega⟩
  rw[Xm,e1,List.length_singleton] at hi;by_cases hi2:i<code.length - m
  ·rw[Zam (by omega),Znj code 0 (by omega)]
   exact hr.bd _ (by omega)
  ·have:i=(cut code (m:Int) (code.length:Int)).length:=by omega
   rw[this,Za0];omega
 simp only[Q72,ilt_eq,len_eq];by_cases c:code.length<n
 ·obtain ⟨x,h1,h2⟩:=key code.length (Xl _) (by omega) (by omega)
  rw[Xc (by omega)];rw[len_eq] at h1;exact ⟨x,h1,h2⟩
 ·obtain ⟨x,h1,h2⟩:=key n (by omega) hn (by omega)
  rw[Xb (by omega)];rw[len_eq] at h1;exact ⟨x,h1,h2⟩
where
 wrap8 {m:Nat} (h:m≤255):IntKind.u8.wrap (m:Int)=m:=by
  simp only[IntKind.wrap,IntKind.bits,IntKind.signed];simp;omega
theorem ZqS {code:List Int} (hb:∀i,i<code.length→0≤gd code i 0∧gd code i 0≤255) (hl:code.length≤65536) (k:Nat) (hk:k≤1000000):Bud (code,(0,0)) k:=⟨hb,hl,by show (0:Int)≤0;omega,by show (0:Int)+k≤1000000000;omega⟩
theorem Zbx (N:Nat) (a b:Int):∃v,Q138 N a b=some (v,()):=⟨_,ZaZ N a b⟩
theorem Zdq (N:Nat) (a b:Int):∃v,Q139 N a b=some (v,()):=by
 simp only[Q139];cases ilt b a<;>exact ⟨_,rfl⟩
theorem ZcY {N:Nat} {cu:Cu} {k:Nat} (v4 v5:Ac) (h:Bud cu (k+4)):∃a c',Q74_K1 N cu v4 v5=some (a,c')∧Bud c' k:=by
 obtain ⟨r,c1,e1,b1,_⟩:=ZG (N:=N) (k:=k+2) 32 h;obtain ⟨x,c2,e2,b2,_⟩:=ZX (N:=N) (list:=[(-1),8,4611686018427387904]) (-1) 4611686018427387904 (by decide) (by decide) b1;obtain ⟨y,c3,e3,b3,_⟩:=ZX (N:=N) (list:=[1,(-1),10]) (-1) 10 (by decide) (by decide) b1;obtain ⟨z,c4,e4,b4,_⟩:=ZX (N:=N) (list:=[0,7,(-1)]) (-1) 7 (by decide) (by decide) b1;simp only[Q74_K1,e1,e2,e3,e4,Xa,ieq_eq];cases decide (r=0) with
 | true=>exact ⟨_,_,rfl,b2⟩
 | false=>
  cases decide (r=1) with
  | true=>exact ⟨_,_,rfl,b3⟩
  | false=>
   cases decide (r=2) with
   | true=>exact ⟨_,_,rfl,b4⟩
   | false=>exact ⟨_,_,rfl,b1.mono (by omega)⟩
theorem Zo8 {N:Nat} {cu:Cu} {k:Nat} (l:Lg) (h:Bud cu (k+14)):∃a c',Q74 N cu l=some (a,c')∧Bud c' k:=by
 obtain ⟨r,c1,e1,b1,_⟩:=ZX (N:=N) (k:=k+12) (list:=[1,2,3,3,3,4,4,4,5,5,6]) 1 6 (by decide) (by decide) h;obtain ⟨m,e2⟩:=Zbx N (len l.2.1) 8;obtain ⟨m2,e3⟩:=Zdq N 1 m;obtain ⟨m3,e4⟩:=Zbx N l.2.2 8;obtain ⟨m4,e5⟩:=Zdq N 0 m3;simp only[Q74,e1,e2,e3,e4,e5,Xa,ieq_eq];cases decide (r=1) with
 | true=>
  obtain ⟨x1,d1,f1,g1,_⟩:=ZG (N:=N) (k:=k+10) 9 b1;obtain ⟨x2,d2,f2,g2,_⟩:=ZG (N:=N) (k:=k+8) 12 g1;obtain ⟨x3,d3,f3,g3,_⟩:=ZG (N:=N) (k:=k+6) 4 g2;obtain ⟨x4,d4,f4,g4,_⟩:=ZG (N:=N) (k:=k+4) 3 g3;simp only[Xd,f1,f2,f3,f4,Xa];exact ZcY _ _ g4
 | false=>
  obtain ⟨x1,d1,f1,g1,_⟩:=ZG (N:=N) (k:=k+10) 3 b1;obtain ⟨m5,e6⟩:=Zbx N (isub .i64 m2 1) (iadd .i64 m4 x1);simp only[Xe,f1,e6,Xa];cases decide (r=2) with
  | true=>
   obtain ⟨x2,d2,f2,g2,_⟩:=ZX (N:=N) (k:=k+8) (list:=[0,1,3,8,20,21]) 0 21 (by decide) (by decide) g1;simp only[Xd,f2,Xa];exact ZcY _ _ (g2.mono (by omega))
  | false=>
   simp only[Xe];cases decide (r=3) with
   | true=>
    obtain ⟨x2,d2,f2,g2,_⟩:=ZX (N:=N) (k:=k+8) (list:=[5,8,3,0,20,200,201]) 0 201 (by decide) (by decide) g1;simp only[Xd,f2,Xa];exact ZcY _ _ (g2.mono (by omega))
   | false=>
    simp only[Xe];exact ZcY _ _ (b1.mono (by omega))
theorem ZfK {N:Nat} {cu:Cu} {k:Nat} {v2 l:Lg} (hs:SmC l.1) (hp:l.2.1.length≤9) (h:Bud cu (k+4)):∃out c',Q79_K1 N cu v2 l=some (out,c')∧Bud c' k∧SmL out:=by
 obtain ⟨r,c1,e1,b1,_⟩:=ZG (N:=N) (k:=k+2) 48 h;obtain ⟨x,c2,e2,b2,_⟩:=ZX (N:=N) (list:=[(-1),8,9]) (-1) 9 (by decide) (by decide) b1;obtain ⟨y,c3,e3,b3,_⟩:=ZX (N:=N) (list:=[0,(-1),201]) (-1) 201 (by decide) (by decide) b1;obtain ⟨z,c4,e4,b4,_⟩:=ZX (N:=N) (list:=[0,200,201,(-1)]) (-1) 201 (by decide) (by decide) b1;simp only[Q79_K1,e1,e2,e3,e4,Xa,ieq_eq,ilt_eq,len_eq,Zf (Zn (n:=l.2.1.length+1) (b:=8) (by omega) (by omega))];cases decide (r=0) with
 | true=>exact ⟨_,_,rfl,b2,hs,by show l.2.1.length<_;omega⟩
 | false=>
  cases decide (r=1) with
  | true=>exact ⟨_,_,rfl,b3,hs,by show (l.2.1++[y]).length<_;simp;omega⟩
  | false=>
   cases decide (r=2) with
   | true=>
    simp only[Xd,Xe];by_cases q:(0:Int)<l.2.1.length
    ·rw[Xc q,Zf (ZaL (i:=0) (n:=l.2.1.length) (by omega) (by omega))]
     exact ⟨_,_,rfl,b4,hs,by show (List.set _ _ _).length<_;rw[List.length_set];omega⟩
    ·rw[Xb q]
     exact ⟨_,_,rfl,b1.mono (by omega),hs,by omega⟩
   | false=>exact ⟨_,_,rfl,b1.mono (by omega),hs,by omega⟩
theorem Zn1 {l:Lg} {a:Ac} (h:(actP l a).2=true):(actP l a).1.2.1.length≤9:=by
 have h1:=(ZQ.1 (ZlF h)).1;have:=h1.n;have:=h1.c.n;omega
theorem Zej {N:Nat} {v2:Lg} (hN:4194304≤N):∀(d k:Nat) (cu:Cu) (l:Lg),d≤100→SmC l.1→l.2.1.length≤9→Bud cu (k+4+14*d)→∃out c',(∀m,d<m→Q79_L1 N m d cu v2 l=some (out,c'))∧Bud c' k∧SmL out
 | 0,k,cu,l,_,hs,hp,h=>by
  obtain ⟨out,c',e,b,s⟩:=ZfK (N:=N) (k:=k) (v2:=v2) hs hp (h.mono (by omega));refine ⟨out,c',fun m hm=> ?_,b,s⟩;obtain ⟨m',rfl⟩:∃m',m=m'+1:=⟨m - 1,by omega⟩
  rw[Q79_L1_succ];simp only[Q79_B1,ilt_eq,show decide ((0:Int)<((0:Nat):Int))=false by decide,Xe,e]
 | d+1,k,cu,l,hd,hs,hp,h=>by
  have hd1:isub .i64 ((d+1:Nat):Int) 1=(d:Int):=by rw[Zv (by omega) (by omega)];omega
  have hpos:decide ((0:Int)<((d+1:Nat):Int))=true:=Xc (by omega);cases hb:ledB l with
  | false=>
   obtain ⟨out,c',e,b,s⟩:=ZfK (N:=N) (k:=k) (v2:=v2) hs hp (h.mono (show k+4≤k+4+14*(d+1) by omega))
   refine ⟨out,c',fun m hm=> ?_,b,s⟩;obtain ⟨m',rfl⟩:∃m',m=m'+1:=⟨m - 1,by omega⟩
   rw[Q79_L1_succ];simp only[Q79_B1,ilt_eq,hpos,Xd,Zab ⟨hs,by omega⟩ hN,hb,Xa,Xe,e]
  | true=>
   obtain ⟨a,c1,e1,b1⟩:=Zo8 (N:=N) (k:=k+4+14*d) l (h.mono (by omega));have e2:=ZeT (N:=N) hb a hN;cases ha:(actP l a).2 with
   | true=>
    obtain ⟨out,c',e,b,s⟩:=Zej (v2:=v2) hN d k c1 (actP l a).1 (by omega) (ZnI a).c (Zn1 ha) b1;refine ⟨out,c',fun m hm=> ?_,b,s⟩;obtain ⟨m',rfl⟩:∃m',m=m'+1:=⟨m - 1,by omega⟩
    rw[Q79_L1_succ];simp only[Q79_B1,ilt_eq,hpos,Xd,Zab ⟨hs,by omega⟩ hN,hb,Xa,e1,e2,ha,hd1];exact e m' (by omega)
   | false=>
    obtain ⟨out,c',e,b,s⟩:=Zej (v2:=v2) hN d k c1 l (by omega) hs hp b1;refine ⟨out,c',fun m hm=> ?_,b,s⟩;obtain ⟨m',rfl⟩:∃m',m=m'+1:=⟨m - 1,by omega⟩
    rw[Q79_L1_succ];simp only[Q79_B1,ilt_eq,hpos,Xd,Zab ⟨hs,by omega⟩ hN,hb,Xa,e1,e2,ha,hd1,Xe];exact e m' (by omega)
theorem Zj4 {N:Nat} {cu:Cu} {k:Nat} (hN:4194304≤N) (h:Bud cu (k+1500)):∃l c',Q79 N cu=some (l,c')∧Bud c' k∧SmL l:=by
 obtain ⟨c,c1,e1,b1,s1⟩:=ZkF (N:=N) (k:=k+1420) (v1:=6) hN (by omega) h;obtain ⟨p,c2,e2,b2,s2⟩:=Zmn (N:=N) (k:=k+120) s1 hN b1;obtain ⟨r,c3,e3,b3,v1,v2⟩:=ZG (N:=N) (k:=k+100) 6 (b2.mono (by omega));obtain ⟨d,rfl⟩:∃d:Nat,r=d:=⟨r.toNat,by omega⟩
 obtain ⟨out,c',e4,b4,s4⟩:=Zej (N:=N) (v2:=(([],([],([],[]))),([],0))) hN d k c3 (c,(p,0)) (by omega) s1.smC s2 (b3.mono (by omega));exact ⟨out,c',by simp only[Q79,e1,e2,e3,Xa,e4 N (by omega)],b4,s4⟩
def digB (B k i:Nat):Nat:=k / B ^ i % B
def codeA (K k:Nat) (s i:Nat):Bool:=decide (K≤s+digB (K+1) k i)
theorem Zn2 {xs:Pl} {i j:Nat} {v:List Int} (hi:i<xs.length):gd (List.set xs i v) j []=if j=i then v else gd xs j []:=by
 by_cases e:j=i
 ·subst e;rw[if_pos rfl];simp [gd,List.getD_eq_getElem?_getD,hi]
 ·rw[if_neg e];simp [gd,List.getD_eq_getElem?_getD,List.getElem?_set_ne (Ne.symm e)]
structure PerLen (P:Pl) (n:Nat):Prop where
 l:P.length≤n
 r:∀s,s<P.length→(gd P s []).length≤16
theorem PerLen.cons {P:Pl} {n:Nat} {l:List Int} (h:PerLen P n) (hl:l.length≤16):PerLen ([l]++P) (n+1):=⟨by have:=h.l;simp;omega,fun s hs=>by
 cases s with
 | zero=>exact hl
 | succ s=>exact h.r s (by simp at hs;omega)⟩
theorem PerLen.set {P:Pl} {n:Nat} {l:List Int} (h:PerLen P n) (h0:0<P.length) (hl:l.length≤16):PerLen (List.set P 0 l) n:=⟨by have:=h.l;simp;omega,fun s hs=>by
 rw[List.length_set] at hs;rw[Zn2 h0];split
 ·exact hl
 ·exact h.r s hs⟩
structure Rect (P:Pl) (K n:Nat):Prop where
 l:P.length=K
 r:∀s,s<K→(gd P s []).length=n
theorem Rect.set {P:Pl} {K n s:Nat} {x:List Int} (h:Rect P K n) (hs:s<K) (hx:x.length=n):Rect (List.set P s x) K n:=⟨by rw[List.length_set];exact h.l,fun r hr=>by
 rw[Zn2 (by rw[h.l];exact hs)]
 split
 ·exact hx
 ·exact h.r r hr⟩
theorem Zn3 (xs:List (List UInt8)) (x sep:List UInt8) (h:xs≠[]):Lib.join (xs++[x]) sep=Lib.join xs sep++sep++x:=by
 cases xs with
 | nil=>exact absurd rfl h
 | cons a r=>rw[List.cons_append,Lib.join_cons,Lib.join_cons];simp [Lib.joinTail,List.map_append,List.flatten_append]
def wordsT (c:UInt8) (f:Nat→List UInt8) (n:Nat):List UInt8:=Lib.join ((List.range n).map f) [c]
theorem ZaQ (c:UInt8) (f:Nat→List UInt8):wordsT c f 0=[]:=rfl
theorem ZbP (c:UInt8) (f:Nat→List UInt8):wordsT c f 1=f 0:=by simp [wordsT,Lib.join_one]
theorem wordsT_succ (c:UInt8) (f:Nat→List UInt8) {n:Nat} (h:0<n):wordsT c f (n+1)=wordsT c f n++[c]++f n:=by
 unfold wordsT;rw[List.range_succ,List.map_append,List.map_cons,List.map_nil,Zn3 _ _ _ (by simp;omega)]
theorem Zbg (c:UInt8) (f:Nat→List UInt8) {k:Nat}:∀n,(∀i,i<n→(f i).length≤k)→(wordsT c f n).length≤n*(k+1)
 | 0,_=>by simp [ZaQ]
 | n+1,h=>by
  have h1:=Zbg c f n (fun i hi=>h i (by omega))
  have h2:=h n (by omega);have e:(n+1)*(k+1)=n*(k+1)+(k+1):=by rw[Nat.add_mul];omega
  by_cases hn:n=0
  ·subst hn;rw[ZbP];omega
  ·rw[wordsT_succ c f (by omega)];simp;omega
theorem Za6 {N:Nat} {c:UInt8} {f:Nat→List UInt8} {n k:Nat} (hn:n<100000) (hk:k≤1000) (h:∀i,i<n→(f i).length≤k):strings_Join N ((List.range n).map fun i=>txt (f i)) (txt [c])=some (txt (wordsT c f n),()):=by
 have e:((List.range n).map fun i=>txt (f i)).map (·.data.toList)=(List.range n).map f:=by rw[List.map_map];rfl
 have e2:(txt [c]).data.toList=[c]:=rfl;have h1:=Zbg c f n h;have h2:n*(k+1)≤100000*1001:=Nat.mul_le_mul (by omega) (by omega);have h3:joinB ((List.range n).map fun i=>txt (f i)) (txt [c])=true:=by
  simp only[joinB,e,e2,List.length_map,List.length_range,Xh,Xi];exact ⟨by omega,by show (wordsT c f n).length≤_;omega⟩
 simp only[strings_Join,h3,chk_true',e,e2];rfl
theorem ZdH {n:Int} (h0: -1000000000000000000<n) (h1:n<1000000000000000000):(numT n).length≤21:=Lib.itoa_length_le n (by omega) (by omega)
theorem ZlJ:∀(a b:List Int),a.length=b.length→(lexC a b<0↔∃j,j<a.length∧(∀i,i<j→gd a i 0=gd b i 0)∧gd a j 0<gd b j 0)
 | [],[],_=>by simp [lexC]
 | [],_::_,h | _::_,[],h=>by simp at h
 | a::x,b::y,h=>by
  have hl:x.length=y.length:=by simpa using h
  have ih:=ZlJ x y hl;simp only[lexC];by_cases h1:a<b
  ·rw[if_pos h1]
   exact ⟨fun _=>⟨0,by simp,fun i hi=>by omega,by simpa [gd] using h1⟩,fun _=>by omega⟩
  ·by_cases h2:b<a
   ·rw[if_neg h1,if_pos h2]
    refine ⟨fun h=>by omega,fun ⟨j,j1,j2,j3⟩=> ?_⟩;cases j with
    | zero=>simp [gd] at j3;omega
    | succ j=>have:=j2 0 (by omega);simp [gd] at this;omega
   ·rw[if_neg h1,if_neg h2,ih]
    have hab:a=b:=by omega
    subst hab;constructor
    ·rintro ⟨j,j1,j2,j3⟩
     refine ⟨j+1,by simpa using j1,fun i hi=> ?_,by simpa [gd] using j3⟩;cases i with
     | zero=>simp [gd]
     | succ i=>have:=j2 i (by omega);simpa [gd] using this
    ·rintro ⟨j,j1,j2,j3⟩
     cases j with
     | zero=>simp [gd] at j3
     | succ j=>exact ⟨j,by simpa using j1,fun i hi=>by have:=j2 (i+1) (by omega);simpa [gd] using this,by simpa [gd] using j3⟩
theorem Ze0 (a b:List Int):befB a b=decide (setC a b<0):=by
 rw[Bool.eq_iff_iff];simp only[befB,Bool.or_eq_true,Xh,Xi];by_cases h:a.length=b.length
 ·have e:setC a b=lexC a b:=by unfold setC;rw[if_pos h]
  rw[e,ZlJ a b h];simp only[h,Nat.lt_irrefl,false_or,true_and,lexlt];rw[decide_eq_true_iff]
 ·have e:setC a b=(a.length:Int) - (b.length:Int):=by unfold setC;rw[if_neg h]
  rw[e];simp only[h,false_and,or_false];omega
theorem Zn4 {S:Nat→Bool} {n:Nat} {x:Int}:x∈pns S n↔∃i,i<n∧S i=true∧(i:Int)=x:=by
 simp only[pns,List.mem_map,List.mem_filter,List.mem_range];exact ⟨fun ⟨i,⟨h1,h2⟩,h3⟩=>⟨i,h1,h2,h3⟩,fun ⟨i,h1,h2,h3⟩=>⟨i,⟨h1,h2⟩,h3⟩⟩
theorem Zo9 {S T:Nat→Bool} {n:Nat} (h:pns S n=pns T n) {i:Nat} (hi:i<n):S i=T i:=by
 have h1:((i:Int)∈pns S n)↔((i:Int)∈pns T n):=by rw[h]
 rw[Zn4,Zn4] at h1;rw[Bool.eq_iff_iff];constructor
 ·intro hs
  obtain ⟨j,_,j2,j3⟩:=h1.1 ⟨i,hi,hs,rfl⟩;obtain rfl:j=i:=by omega
  exact j2
 ·intro hs
  obtain ⟨j,_,j2,j3⟩:=h1.2 ⟨i,hi,hs,rfl⟩;obtain rfl:j=i:=by omega
  exact j2
theorem Zpa {n j k:Nat} (hj:j<2 ^ n) (hk:k<2 ^ n) (h:pns (bitS j) n=pns (bitS k) n):j=k:=by
 apply Nat.eq_of_testBit_eq;intro i;by_cases hi:i<n
 ·exact Zo9 h hi
 ·have h2:2 ^ n≤2 ^ i:=Nat.pow_le_pow_right (by omega) (by omega)
  rw[Nat.testBit_lt_two_pow (by omega),Nat.testBit_lt_two_pow (by omega)]
def setsL (n:Nat):List (List Int):=(List.range (2 ^ n)).map fun k=>pns (bitS k) n
def sortL (n:Nat):List (List Int):=(setsL n).mergeSort leC
theorem Zj5 {n:Nat} {x:List Int}:x∈setsL n↔∃k,k<2 ^ n∧x=pns (bitS k) n:=by
 simp only[setsL,List.mem_map,List.mem_range];exact ⟨fun ⟨k,h1,h2⟩=>⟨k,h1,h2.symm⟩,fun ⟨k,h1,h2⟩=>⟨k,h1,h2.symm⟩⟩
theorem Zj6 {n:Nat} {x:List Int}:x∈sortL n↔∃k,k<2 ^ n∧x=pns (bitS k) n:=by
 unfold sortL;rw[List.mem_mergeSort,Zj5]
theorem ZkR (n:Nat):(setsL n).Nodup:=by
 unfold setsL;rw[List.Nodup,List.pairwise_map];refine List.Pairwise.imp_of_mem (fun {a b} ha hb h=>fun e=>h (Zpa (List.mem_range.1 ha) (List.mem_range.1 hb) e)) (List.nodup_range (n:=2 ^ n))
theorem Zj7 (n:Nat):(sortL n).length=2 ^ n:=by simp [sortL,setsL,List.length_mergeSort]
theorem ZiW {n i:Nat} (hi:i<(sortL n).length):∃k,k<2 ^ n∧gd (sortL n) i []=pns (bitS k) n:=by
 have:gd (sortL n) i []∈sortL n:=ZeG [] hi;exact Zj6.1 this
theorem Zn5 (x y z:List Int) (h1:leC x y=true) (h2:leC y z=true):leC x z=true:=by
 simp only[leC,Bool.not_eq_true',decide_eq_false_iff_not] at h1 h2 ⊢;exact Zd9 h2 h1
theorem Zn6 (x y:List Int):(leC x y || leC y x)=true:=by
 have:=ZcO x y;simp only[leC,Bool.or_eq_true,Bool.not_eq_true',decide_eq_false_iff_not];omega
theorem Zpb {n i j:Nat} (hij:i<j) (hj:j<(sortL n).length):befB (gd (sortL n) j []) (gd (sortL n) i [])=false:=by
 have h:=List.pairwise_mergeSort Zn5 Zn6 (setsL n);have h2:=List.pairwise_iff_getElem.1 h i j (by have:=hj;unfold sortL at this;omega) (by have:=hj;unfold sortL at this;exact this) hij
 have e:∀(k:Nat) (hk:k<(sortL n).length),gd (sortL n) k []=((setsL n).mergeSort leC)[k]'(by unfold sortL at hk;exact hk):=fun k hk=>by
  simp only[gd,List.getD_eq_getElem?_getD,List.getElem?_eq_getElem hk,Option.getD_some];rfl
 rw[e i (by omega),e j hj,Ze0];simp only[leC,Bool.not_eq_true',decide_eq_false_iff_not] at h2;exact Xb h2
theorem Zj8 {N n:Nat} (hn:n≤8) (hN:4194304≤N):Q67 N n=some (sortL n,()):=by
 have hp:=ZgX hn;simp only[Q67,ile_eq,show (0:Int)≤(n:Int) by omega,Xf,chk_true',ZdF (show n≤30 by omega)];refine Q67_L2_run N (fun _=>(n:Int)) (fun _=>((2 ^ n:Nat):Int)) (fun k=>(k:Int)) (fun k=>(List.range k).map fun k=>pns (bitS k) n) (2 ^ n) (fun k hk kx=> ?_) (fun kx=> ?_) N (by omega)
 ·simp only[Q67_B2,ilt_eq,Xk,hk,Xf,Xd]
  refine Q67_L1_run N kx (fun _=>(n:Int)) (fun _=>(k:Int)) (fun _=>((2 ^ n:Nat):Int)) (fun _=>(k:Int)) (fun _=>(n:Int)) (fun i=>(i:Int)) (fun _=>(List.range k).map fun k=>pns (bitS k) n) (pns (bitS k)) n (fun i hi kx1=> ?_) (fun kx1=> ?_) N (by omega)
  ·have hc:=Za7 (bitS k) i
   simp only[cnt] at hc;simp only[Q67_B1,ilt_eq,Xk,hi,Xf,Xd,ile_eq,show (0:Int)≤(i:Int) by omega,chk_true',Zno (show k<1000000000 by omega) (show i≤60 by omega),Zf (Zn (n:=(pns (bitS k) i).length+1) (b:=8) (by omega) (by omega)),pns_succ,Zc (show i<4611686018427387904 by omega)];cases h:k.testBit i<;>simp [bitS,h]
  ·simp only[Q67_B1,Q67_K1,ilt_eq,Xn,Xg,Xe,Z8,Zf (Zn (n:=k+1) (b:=24) (by omega) (by omega)),Zc (show k<4611686018427387904 by omega)]
   rw[List.range_succ,List.map_append,List.map_cons,List.map_nil]
 ·have hok:sortOk ((List.range (2 ^ n)).map fun k=>pns (bitS k) n)=true:=by
   simp only[sortOk,Xh,Xi,List.all_eq_true,Z8];refine ⟨by omega,fun r hr=> ?_,ZkR n⟩;obtain ⟨k,_,rfl⟩:=Zj5.1 hr;have hc:=Za7 (bitS k) n;simp only[cnt] at hc;omega
  simp only[Q67_B2,Q67_K2,ilt_eq,Xn,Xg,Xe,slices_SortFunc_int_int__impl_sets_1,hok,chk_true',Xa];rfl
def okL (L t:Nat) (x:Int):Bool:=inRg ((t:Int) - (L:Int)+1) t x
def omin:Option Int→Int→Int
 | none,r=>r
 | some a,r=>imin a r
def mnL (c:Cs) (L:Nat) (ps:List Int) (t:Nat):Nat→Option Int
 | 0=>none
 | j+1=>bif okL L t (gd ps j 0) then some (omin (mnL c L ps t j) (rateOf c (gd ps j 0).toNat t)) else mnL c L ps t j
def stL (c:Cs) (ps:List Int):Nat→Int
 | 0=>0
 | j+1=>stL c ps j+gd c.2.1 (gd ps j 0).toNat 0
def frL (c:Cs) (L:Nat) (ps:List Int):Nat→Option Int
 | 0=>some (stL c ps ps.length)
 | t+1=>match frL c L ps t with
  | none=>none
  | some s=>if 0<gd c.1 t 0 then (match mnL c L ps t ps.length with | none=>none | some r=>some (s+gd c.1 t 0*r)) else some s
def perP (n:Nat) (ps:List Int):Prop:=ps.length≤n∧∀j,j<ps.length→0≤gd ps j 0∧gd ps j 0<n
theorem Zgo (S:Nat→Bool) (n:Nat):perP n (pns S n):=⟨Za7 S n,fun _ hj=>Zpv hj⟩
theorem ZlK (c:Cs) (L:Nat) (ps:List Int) (t:Nat):∀m,(mnL c L ps t m=none∧∀j,j<m→okL L t (gd ps j 0)=false)∨(∃r,mnL c L ps t m=some r∧(∃j,j<m∧okL L t (gd ps j 0)=true∧r=rateOf c (gd ps j 0).toNat t)∧∀j,j<m→okL L t (gd ps j 0)=true→r≤rateOf c (gd ps j 0).toNat t)
 | 0=> .inl ⟨rfl,fun j hj=>by omega⟩
 | m+1=>by
  simp only[mnL];cases h:okL L t (gd ps m 0) with
  | false=>
   simp only[Xe];rcases ZlK c L ps t m with ⟨h1,h2⟩ | ⟨r,h1,⟨j,j1,j2,j3⟩,h3⟩
   ·refine .inl ⟨h1,fun j hj=> ?_⟩
    by_cases e:j=m
    ·subst e;exact h
    ·exact h2 j (by omega)
   ·refine .inr ⟨r,h1,⟨j,by omega,j2,j3⟩,fun q hq ho=> ?_⟩
    by_cases e:q=m
    ·subst e;rw[h] at ho;cases ho
    ·exact h3 q (by omega) ho
  | true=>
   simp only[Xd];refine .inr ⟨_,rfl, ?_⟩;rcases ZlK c L ps t m with ⟨h1,h2⟩ | ⟨r,h1,⟨j,j1,j2,j3⟩,h3⟩
   ·rw[h1]
    refine ⟨⟨m,by omega,h,rfl⟩,fun q hq ho=> ?_⟩;by_cases e:q=m
    ·subst e;exact Int.le_refl _
    ·rw[h2 q (by omega)] at ho;cases ho
   ·rw[h1]
    have hm:=Zcj (x:=r) (y:=rateOf c (gd ps m 0).toNat t);refine ⟨?_,fun q hq ho=> ?_⟩
    ·rcases hm.2.2 with e | e
     ·exact ⟨j,by omega,j2,by simp only[omin];rw[e,j3]⟩
     ·exact ⟨m,by omega,h,e⟩
    ·simp only[omin]
     by_cases e:q=m
     ·subst e;exact hm.2.1
     ·have:=h3 q (by omega) ho;omega
theorem ZlL {c:Cs} (hc:CaseP c) {L t:Nat} {ps:List Int} (hp:perP c.1.length ps) (ht:t≤c.1.length) {m:Nat} (hm:m≤ps.length) {r:Int} (h:mnL c L ps t m=some r):0≤r∧r≤81:=by
 rcases ZlK c L ps t m with ⟨h1,_⟩ | ⟨r',h1,⟨j,j1,j2,j3⟩,_⟩
 ·rw[h1] at h;cases h
 ·rw[h1] at h;cases h
  have:=hp.2 j (by omega);simp only[okL,inRg,Xh,Xi] at j2;rw[j3];exact Zci hc (by omega) (by omega) ht
theorem ZlM {c:Cs} (hc:CaseP c) {ps:List Int} (hp:perP c.1.length ps):∀j,j≤ps.length→0≤stL c ps j∧stL c ps j≤99*(j:Int)
 | 0,_=>by simp [stL]
 | j+1,hj=>by
  obtain ⟨h1,h2⟩:=ZlM hc hp j (by omega);have h3:=hp.2 j (by omega);have h4:=hc.b1 (gd ps j 0).toNat (by rw[hc.l1];omega)
  simp only[stL];omega
theorem Zj9 {c:Cs} (hc:CaseP c) {L:Nat} {ps:List Int} (hp:perP c.1.length ps):∀t,t≤c.1.length→∀s,frL c L ps t=some s→0≤s∧s≤800+1620*(t:Int)
 | 0,_,s,h=>by
  simp only[frL,Option.some.injEq] at h;subst h;have:=ZlM hc hp ps.length (Xl _);have:=hp.1;have:=hc.n;omega
 | t+1,ht,s,h=>by
  simp only[frL] at h;split at h
  ·cases h
  ·rename_i s0 hs0
   obtain ⟨h1,h2⟩:=Zj9 hc hp t (by omega) s0 hs0;split at h
   ·split at h
    ·cases h
    ·rename_i r hr
     cases h;have hb:=ZlL hc hp (show t≤c.1.length by omega) (Xl _) hr;have hn:=hc.b0 t (by omega);have m1:=Int.mul_nonneg hn.1 hb.1;have m2:=Int.mul_le_mul hn.2 hb.2 hb.1 (by omega);omega
   ·cases h;omega
theorem Ze1 {c:Cs} {L:Nat} {ps:List Int} {t:Nat} (h:frL c L ps t=none):∀m,t≤m→frL c L ps m=none:=by
 intro m
 induction m with
 | zero => intro hm; obtain rfl : t = 0 := by omega
           exact h
 | succ m ih=>
  intro hm;by_cases e:t=m+1
  ·rw[←e];exact h
  ·simp only[frL,ih (by omega)]
theorem Zqh {a r:Int} (h:r≤a):imin a r=r:=by unfold imin;split<;>omega
theorem ZiX {N:Nat} {c:Cs} (hc:CaseP c) {L:Nat} (hL:L≤8) {ps:List Int} (hp:perP c.1.length ps) {t:Nat} (ht:t<c.1.length) (sum:Int) (hN:4194304≤N) {kx1:Int→List Int→Int→List Int→Int→Int→Cs→Option ((Int×Bool)×Unit)}:
  Q16_L1 N N kx1 (L:Int) ps sum (t:Nat) (gd c.1 t 0) 1099511627776 c.1 (c.1.length:Int) (t:Nat) ps (ps.length:Int) 0 c=Q16_K1 N kx1 (L:Int) ps sum (gd c.1 t 0) ((mnL c L ps t ps.length).getD 1099511627776) c.1 (c.1.length:Int) (t:Nat) c:=by
 have hn:=hc.n;have hpl:=hp.1;refine Q16_L1_run N kx1 (fun _=>(L:Int)) (fun _=>ps) (fun _=>sum) (fun _=>(t:Int)) (fun _=>gd c.1 t 0) (fun j=>(mnL c L ps t j).getD 1099511627776) (fun _=>c.1) (fun _=>(c.1.length:Int)) (fun _=>(t:Int)) (fun _=>ps) (fun _=>(ps.length:Int)) (fun j=>(j:Int)) (fun _=>c) ps.length (fun j hj kx=> ?_) (fun kx=> ?_) N (by omega)
 ·have hx:=hp.2 j hj
  have e1:iadd .i64 (isub .i64 (t:Int) (L:Int)) 1=(t:Int) - (L:Int)+1:=by rw[Zv (by omega) (by omega),Zh (by omega) (by omega)]
  simp only[Q16_B1,ilt_eq,Xk,hj,Xf,Xd,Zb hj,chk_true',Xj,e1,Zz,Xa,Zc (show j<4611686018427387904 by omega),mnL];cases h:okL L t (gd ps j 0) with
  | false=>rw[show inRg ((t:Int) - (L:Int)+1) t (gd ps j 0)=false from h];rfl
  | true=>
   rw[show inRg ((t:Int) - (L:Int)+1) t (gd ps j 0)=true from h];simp only[okL,inRg,Xh,Xi] at h;have hr:Q21 N c (gd ps j 0) (t:Int)=some (rateOf c (gd ps j 0).toNat t,()):=by
    have:=ZaI (N:=N) hc (i:=(gd ps j 0).toNat) (t:=t) (by omega) (by omega) (by omega) hN
    rwa [show (((gd ps j 0).toNat:Nat):Int)=gd ps j 0 by omega] at this
   simp only[Xd,hr,Xa];have hb:=Zci hc (i:=(gd ps j 0).toNat) (t:=t) (by omega) (by omega) (by omega);cases hm:mnL c L ps t j with
   | none=>simp only[Option.getD_none,omin,Option.getD_some,Zqh (show rateOf c (gd ps j 0).toNat t≤1099511627776 by omega)]
   | some a=>simp only[omin,Option.getD_some]
 ·simp only[Q16_B1,ilt_eq,Xn,Xg,Xe]
theorem Zhe (c:Cs) (L:Nat) (ps:List Int):∀n,(∃s,frL c L ps n=some s)∨(∃j,j<n∧(∃s,frL c L ps j=some s)∧frL c L ps (j+1)=none∧frL c L ps n=none)
 | 0=> .inl ⟨_,rfl⟩
 | n+1=>by
  rcases Zhe c L ps n with ⟨s,h⟩ | ⟨j,j1,j2,j3,j4⟩
  ·cases h2:frL c L ps (n+1) with
   | some s=>exact .inl ⟨s,rfl⟩
   | none=>exact .inr ⟨n,by omega,⟨s,h⟩,h2,rfl⟩
  ·exact .inr ⟨j,by omega,j2,j3,Ze1 j4 _ (by omega)⟩
def frR (o:Option Int):Int×Bool:=match o with | some s=>(s,true) | none=>(0,false)
theorem Ze2 {N:Nat} {c:Cs} (hc:CaseP c) {L:Nat} (hL:L≤8) {ps:List Int} (hp:perP c.1.length ps) (hN:4194304≤N):Q16 N c (L:Int) ps=some (frR (frL c L ps c.1.length),()):=by
 have hn:=hc.n;have hpl:=hp.1;have step:∀t s,t<c.1.length→frL c L ps t=some s→∀kx1,Q16_B2 N kx1 (L:Int) ps s c.1 (c.1.length:Int) (t:Nat) c=match frL c L ps (t+1) with | some s'=>kx1 (L:Int) ps s' c.1 (c.1.length:Int) ((t+1:Nat):Int) c | none=>some ((0,false),()):=fun t s ht hs kx1=>by
  have hb:=Zj9 hc hp t (by omega) s hs;simp only[Q16_B2,ilt_eq,len_eq,Xk,ht,Xf,Xd,Zb ht,chk_true',Xj,ZiX hc hL hp ht s hN,Q16_K1,frL,hs,Zc (show t<4611686018427387904 by omega),ieq_eq];by_cases q:0<gd c.1 t 0
  ·simp only[q,Xf,Xd,if_true]
   cases hm:mnL c L ps t ps.length with
   | none=>simp only[Option.getD_none,Xf,Xd]
   | some r=>
    have hr:=ZlL hc hp (show t≤c.1.length by omega) (Xl _) hm;have hnn:=hc.b0 t ht;have m1:=Int.mul_nonneg hnn.1 hr.1;have m2:=Int.mul_le_mul hnn.2 hr.2 hr.1 (by omega);simp only[Option.getD_some,show ¬r=1099511627776 by omega,Xg,Xe,ZV (show -9223372036854775808≤gd c.1 t 0*r by omega) (by omega)];rw[Zh (by omega) (by omega)]
  ·simp only[q,Xg,Xe,if_false]
 have h3:Q16 N c (L:Int) ps=Q16_K3 N (L:Int) ps (stL c ps ps.length) c:=by
  simp only[Q16,len_eq];refine Q16_L3_run N (fun _=>(L:Int)) (fun _=>ps) (fun j=>stL c ps j) (fun _=>ps) (fun _=>(ps.length:Int)) (fun j=>(j:Int)) (fun _=>c) ps.length (fun j hj kx=> ?_) (fun kx=> ?_) N (by omega)
  ·have hx:=hp.2 j hj
   have hl1:=hc.l1;have hb:=ZlM hc hp (j+1) hj;simp only[stL] at hb;simp only[Q16_B3,ilt_eq,Xk,hj,Xf,Xd,Zb hj,chk_true',Xj,show inB (gd ps j 0) c.2.1.length=true from ZaL hx.1 (by rw[hl1];exact hx.2),Zc (show j<4611686018427387904 by omega),stL]
   rw[Zh (by omega) (by omega)]
  ·simp only[Q16_B3,ilt_eq,Xn,Xg,Xe]
 rw[h3];simp only[Q16_K3,len_eq];rcases Zhe c L ps c.1.length with ⟨s,h⟩ | ⟨j,j1,⟨s,j2⟩,j3,j4⟩
 ·have hall:∀t,t≤c.1.length→∃s,frL c L ps t=some s:=fun t ht=>by
   cases h2:frL c L ps t with
   | some s=>exact ⟨s,rfl⟩
   | none=>rw[Ze1 h2 _ ht] at h;cases h
  have key:=Q16_L2_run N (fun _=>(L:Int)) (fun _=>ps) (fun t=>(frL c L ps t).getD 0) (fun _=>c.1) (fun _=>(c.1.length:Int)) (fun t=>(t:Int)) (fun _=>c) c.1.length (res_:=some (frR (frL c L ps c.1.length),())) (fun t ht kx=>by
   obtain ⟨s0,h0⟩:=hall t (by omega);obtain ⟨s1,h1⟩:=hall (t+1) (by omega);rw[h0,h1,Option.getD_some,Option.getD_some,step t s0 ht h0 kx,h1]) (fun kx=>by
   simp only[Q16_B2,Q16_K2,ilt_eq,len_eq,Xn,Xg,Xe,h,Option.getD_some,frR]) N (by omega)
  exact key
 ·have hall:∀t,t≤j→∃s,frL c L ps t=some s:=fun t ht=>by
   cases h2:frL c L ps t with
   | some s=>exact ⟨s,rfl⟩
   | none=>rw[Ze1 h2 _ ht] at j2;cases j2
  have key:=Q16_L2_run N (fun _=>(L:Int)) (fun _=>ps) (fun t=>(frL c L ps t).getD 0) (fun _=>c.1) (fun _=>(c.1.length:Int)) (fun t=>(t:Int)) (fun _=>c) j (res_:=some (frR (frL c L ps c.1.length),())) (fun t ht kx=>by
   obtain ⟨s0,h0⟩:=hall t (by omega);obtain ⟨s1,h1⟩:=hall (t+1) (by omega);rw[h0,h1,Option.getD_some,Option.getD_some,step t s0 (by omega) h0 kx,h1]) (fun kx=>by
   rw[j2,Option.getD_some,step j s j1 j2 kx,j3,j4];rfl) N (by omega)
  exact key
theorem Zhu {N:Nat} {c:Cs} (hc:CaseP c) {L:Nat} (hL:L≤8) {ps:List Int} (hp:perP c.1.length ps) {t:Nat} (ht:t<c.1.length) (hN:4194304≤N):Q171 N c (L:Int) ps (t:Nat)=some ((mnL c L ps t ps.length).getD (-1),()):=by
 have hn:=hc.n;have hpl:=hp.1;simp only[Q171];refine Q171_L1_run N (fun _=>(L:Int)) (fun _=>ps) (fun _=>(t:Int)) (fun j=>(mnL c L ps t j).getD (-1)) (fun j=>(j:Int)) (fun _=>c) ps.length (fun j hj kx=> ?_) (fun kx=> ?_) N (by omega)
 ·have hx:=hp.2 j hj
  have e1:iadd .i64 (gd ps j 0) (L:Int)=gd ps j 0+(L:Int):=Zh (by omega) (by omega);simp only[Q171_B1,ilt_eq,len_eq,ile_eq,Xk,hj,Xf,Xd,Zb hj,chk_true',Xj,e1,Zc (show j<4611686018427387904 by omega),mnL];by_cases q1:gd ps j 0≤(t:Int)
  ·by_cases q2:(t:Int)<gd ps j 0+(L:Int)
   ·have hok:okL L t (gd ps j 0)=true:=by simp only[okL,inRg,Xh,Xi];omega
    have hr:Q165 N c (gd ps j 0) (t:Int)=some (rateOf c (gd ps j 0).toNat t,()):=by
     have:=Zbm (N:=N) hc (i:=(gd ps j 0).toNat) (t:=t) (by omega) (by omega) (by omega) hN
     rwa [show (((gd ps j 0).toNat:Nat):Int)=gd ps j 0 by omega] at this
    simp only[q1,q2,hok,Xf,Xd,hr,Xa];cases hm:mnL c L ps t j with
    | none=>simp only[Option.getD_none,omin,Option.getD_some,show (-1:Int)<0 by omega,Xf,Xd]
    | some a=>
     have hb:=ZlL hc hp (show t≤c.1.length by omega) (show j≤ps.length by omega) hm;simp only[omin,Option.getD_some,show ¬a<0 by omega,Xg,Xe];by_cases q3:rateOf c (gd ps j 0).toNat t<a
     ·simp only[q3,Xf,Xd,imin,if_true]
     ·simp only[q3,Xg,Xe,imin,if_false]
   ·have hok:okL L t (gd ps j 0)=false:=by
     cases h:okL L t (gd ps j 0) with
     | false=>rfl
     | true=>simp only[okL,inRg,Xh,Xi] at h;omega
    simp only[q1,q2,hok,Xf,Xg,Xd,Xe]
  ·have hok:okL L t (gd ps j 0)=false:=by
    cases h:okL L t (gd ps j 0) with
    | false=>rfl
    | true=>simp only[okL,inRg,Xh,Xi] at h;omega
   simp only[q1,hok,Xg,Xe]
 ·simp only[Q171_B1,Q171_K1,ilt_eq,len_eq,Xn,Xg,Xe]
theorem Zhf {N:Nat} {c:Cs} (hc:CaseP c) {L:Nat} (hL:L≤8) {ps:List Int} (hp:perP c.1.length ps) (hN:4194304≤N):Q169 N c (L:Int) ps=some ((frL c L ps c.1.length).getD (-1),()):=by
 have hn:=hc.n;have hpl:=hp.1;have step:∀t s,t<c.1.length→frL c L ps t=some s→∀kx1,Q169_B1 N kx1 (L:Int) ps s (t:Nat) c=match frL c L ps (t+1) with | some s'=>kx1 (L:Int) ps s' ((t+1:Nat):Int) c | none=>some (-1,()):=fun t s ht hs kx1=>by
  have hb:=Zj9 hc hp t (by omega) s hs;simp only[Q169_B1,ilt_eq,len_eq,Xk,ht,Xf,Xd,Zb ht,chk_true',Xj,Zhu hc hL hp ht hN,Xa,Q169_K1,frL,hs,Zc (show t<4611686018427387904 by omega)];by_cases q:0<gd c.1 t 0
  ·simp only[q,Xf,Xd,if_true]
   cases hm:mnL c L ps t ps.length with
   | none=>simp only[Option.getD_none,show (-1:Int)<0 by omega,Xf,Xd]
   | some r=>
    have hr:=ZlL hc hp (show t≤c.1.length by omega) (Xl _) hm;have hnn:=hc.b0 t ht;have m1:=Int.mul_nonneg hnn.1 hr.1;have m2:=Int.mul_le_mul hnn.2 hr.2 hr.1 (by omega);simp only[Option.getD_some,show ¬r<0 by omega,Xg,Xe,ZV (show -9223372036854775808≤gd c.1 t 0*r by omega) (by omega)];rw[Zh (by omega) (by omega)]
  ·simp only[q,Xg,Xe,if_false]
 have h3:Q169 N c (L:Int) ps=Q169_K3 N (L:Int) ps (stL c ps ps.length) c:=by
  simp only[Q169];refine Q169_L2_run N (fun _=>(L:Int)) (fun _=>ps) (fun j=>stL c ps j) (fun j=>(j:Int)) (fun _=>c) ps.length (fun j hj kx=> ?_) (fun kx=> ?_) N (by omega)
  ·have hx:=hp.2 j hj
   have hl1:=hc.l1;have hb:=ZlM hc hp (j+1) hj;simp only[stL] at hb;simp only[Q169_B2,ilt_eq,len_eq,Xk,hj,Xf,Xd,Zb hj,chk_true',Xj,show inB (gd ps j 0) c.2.1.length=true from ZaL hx.1 (by rw[hl1];exact hx.2),Zc (show j<4611686018427387904 by omega),stL]
   rw[Zh (by omega) (by omega)]
  ·simp only[Q169_B2,ilt_eq,len_eq,Xn,Xg,Xe]
 rw[h3];simp only[Q169_K3];rcases Zhe c L ps c.1.length with ⟨s,h⟩ | ⟨j,j1,⟨s,j2⟩,j3,j4⟩
 ·have hall:∀t,t≤c.1.length→∃s,frL c L ps t=some s:=fun t ht=>by
   cases h2:frL c L ps t with
   | some s=>exact ⟨s,rfl⟩
   | none=>rw[Ze1 h2 _ ht] at h;cases h
  have key:=Q169_L1_run N (fun _=>(L:Int)) (fun _=>ps) (fun t=>(frL c L ps t).getD 0) (fun t=>(t:Int)) (fun _=>c) c.1.length (res_:=some ((frL c L ps c.1.length).getD (-1),())) (fun t ht kx=>by
   obtain ⟨s0,h0⟩:=hall t (by omega);obtain ⟨s1,h1⟩:=hall (t+1) (by omega);rw[h0,h1,Option.getD_some,Option.getD_some,step t s0 ht h0 kx,h1]) (fun kx=>by
   simp only[Q169_B1,Q169_K2,ilt_eq,len_eq,Xn,Xg,Xe,h,Option.getD_some]) N (by omega)
  exact key
 ·have hall:∀t,t≤j→∃s,frL c L ps t=some s:=fun t ht=>by
   cases h2:frL c L ps t with
   | some s=>exact ⟨s,rfl⟩
   | none=>rw[Ze1 h2 _ ht] at j2;cases j2
  have key:=Q169_L1_run N (fun _=>(L:Int)) (fun _=>ps) (fun t=>(frL c L ps t).getD 0) (fun t=>(t:Int)) (fun _=>c) j (res_:=some ((frL c L ps c.1.length).getD (-1),())) (fun t ht kx=>by
   obtain ⟨s0,h0⟩:=hall t (by omega);obtain ⟨s1,h1⟩:=hall (t+1) (by omega);rw[h0,h1,Option.getD_some,Option.getD_some,step t s0 (by omega) h0 kx,h1]) (fun kx=>by
   rw[j2,Option.getD_some,step j s j1 j2 kx,j3,j4];rfl) N (by omega)
  exact key
def frO (c:Cs) (L k:Nat):Option Int:=frL c L (pns (bitS k) c.1.length) c.1.length
noncomputable def fbSt (c:Cs) (L:Nat):Nat→List Int×Int
 | 0=>([], -1)
 | k+1=>match frO c L k with
  | none=>fbSt c L k
  | some v=>bif tk (fbSt c L k).2 v (befB (pns (bitS k) c.1.length) (fbSt c L k).1) then (pns (bitS k) c.1.length,v) else fbSt c L k
def fiSt (c:Cs) (L:Nat) (Z:List (List Int)):Nat→List Int×Int
 | 0=>([],1099511627776)
 | i+1=>match frL c L (gd Z i []) c.1.length with
  | none=>fiSt c L Z i
  | some v=>if v<(fiSt c L Z i).2 then (gd Z i [],v) else fiSt c L Z i
theorem ZlN {c:Cs} (hc:CaseP c) {L k:Nat} {v:Int} (h:frO c L k=some v):0≤v∧v≤13760:=by
 have:=Zj9 hc (Zgo (bitS k) c.1.length) c.1.length (Xl _) v h;have:=hc.n;omega
theorem Zhv {N:Nat} {c:Cs} (hc:CaseP c) {L:Nat} (hL:L≤8) (hN:4194304≤N):Q168 N c (L:Int)=some (fbSt c L (2 ^ c.1.length),()):=by
 have hn:=hc.n;have hp:=ZgX hn;simp only[Q168];have key:=Q168_L1_run N (fun _=>(L:Int)) (fun k=>(fbSt c L k).2) (fun k=>(k:Int)) (fun _=>c) (fun k=>(fbSt c L k).1) (2 ^ c.1.length) (res_:=some (fbSt c L (2 ^ c.1.length),())) (fun k hk kx=> ?_) (fun kx=> ?_) N (by omega)
 ·exact key
 ·have hl:=Za7 (bitS k) c.1.length
  simp only[cnt] at hl;simp only[Q168_B1,ile_eq,len_eq,show (0:Int)≤c.1.length by omega,Xf,chk_true',ZdF (show c.1.length≤30 by omega),ilt_eq,Xk,hk,Xd,ZdV (show c.1.length≤30 by omega) (show k<1000000000 by omega) hN,Xa,Zhf hc hL (Zgo (bitS k) c.1.length) hN,Zc (show k<4611686018427387904 by omega),fbSt,ieq_eq];cases hf:frO c L k with
  | none=>
   have hf':frL c L (pns (bitS k) c.1.length) c.1.length=none:=hf;simp only[hf',Option.getD_none,show ¬(0:Int)≤ -1 by omega,Xg,Xe]
  | some v=>
   have hf':frL c L (pns (bitS k) c.1.length) c.1.length=some v:=hf;have hv:=ZlN hc hf;simp only[hf',Option.getD_some,hv.1,Xf,Xd,tk];by_cases q1:(fbSt c L k).2<0
   ·simp only[q1,Xf,Xd,Bool.true_or]
   ·by_cases q2:v<(fbSt c L k).2
    ·simp only[q1,q2,Xf,Xg,Xd,Xe,Bool.true_or,Bool.or_true]
    ·by_cases q3:v=(fbSt c L k).2
     ·simp only[q1,q2,q3,Xf,Xg,Xd,Xe,Zc0 (N:=N) (a:=pns (bitS k) c.1.length) (b:=(fbSt c L k).1) (by omega) hN,Xa,Bool.false_or,Bool.true_and,Xn]
      cases befB (pns (bitS k) c.1.length) (fbSt c L k).1<;>rfl
     ·simp only[q1,q2,q3,Xg,Xe,Bool.false_or,Bool.false_and]
 ·simp only[Q168_B1,ile_eq,len_eq,show (0:Int)≤c.1.length by omega,Xf,chk_true',ZdF (show c.1.length≤30 by omega),ilt_eq,Xn,Xg,Xe,Q168_K1]
theorem Zc7 {N:Nat} {c:Cs} (hc:CaseP c) {L:Nat} (hL:L≤8) (hN:4194304≤N):Q10 N c (L:Int)=some (fiSt c L (sortL c.1.length) (2 ^ c.1.length),()):=by
 have hn:=hc.n;have hp:=ZgX hn;have hl:=Zj7 c.1.length;simp only[Q10,len_eq,Zj8 hn hN,Xa];have step:∀i,i<2 ^ c.1.length→Q16 N c (L:Int) (gd (sortL c.1.length) i [])=some (frR (frL c L (gd (sortL c.1.length) i []) c.1.length),()):=fun i hi=>by
  obtain ⟨k,_,hk⟩:=ZiW (n:=c.1.length) (i:=i) (by omega);rw[hk];exact Ze2 hc hL (Zgo _ _) hN
 rw[hl];have key:=Q10_L1_run N (fun _=>(L:Int)) (fun i=>(fiSt c L (sortL c.1.length) i).1) (fun i=>(fiSt c L (sortL c.1.length) i).2) (fun _=>((2 ^ c.1.length:Nat):Int)) (fun i=>(i:Int)) (fun _=>c) (fun _=>sortL c.1.length) (2 ^ c.1.length) (res_:=some (fiSt c L (sortL c.1.length) (2 ^ c.1.length),())) (fun i hi kx=> ?_) (fun kx=> ?_) N (by omega)
 ·exact key
 ·simp only[Q10_B1,Q10_K1,ilt_eq,Xk,hi,Xf,Xd,Zb (show i<(sortL c.1.length).length by omega),chk_true',Xj,step i hi,Xa,Zc (show i<4611686018427387904 by omega),fiSt]
  cases hf:frL c L (gd (sortL c.1.length) i []) c.1.length with
  | none=>simp only[frR,Xe]
  | some v=>
   simp only[frR,Xd];by_cases q:v<(fiSt c L (sortL c.1.length) i).2
   ·simp only[q,Xf,Xd,if_true]
   ·simp only[q,Xg,Xe,if_false]
 ·simp only[Q10_B1,Q10_K2,ilt_eq,Xn,Xg,Xe]
theorem ZlO (x:List Int):befB x x=false:=by rw[Ze0,ZjN];rfl
theorem Zqi {x y:List Int} (h1:befB x y=false) (h2:befB y x=false):x=y:=by
 rw[Ze0] at h1 h2;simp only[decide_eq_false_iff_not] at h1 h2;have:=ZcO x y;exact ZeE (by omega)
def isBest (c:Cs) (L:Nat) (b:List Int×Int):Prop:=∃k,k<2 ^ c.1.length∧b.1=pns (bitS k) c.1.length∧frO c L k=some b.2∧∀j,j<2 ^ c.1.length→∀u,frO c L j=some u→b.2<u∨(b.2=u∧befB (pns (bitS j) c.1.length) b.1=false)
theorem Zmw {c:Cs} {L:Nat} {a b:List Int×Int} (ha:isBest c L a) (hb:isBest c L b):a=b:=by
 obtain ⟨k,k1,k2,k3,k4⟩:=ha;obtain ⟨j,j1,j2,j3,j4⟩:=hb;have h1:=k4 j j1 _ j3;have h2:=j4 k k1 _ k3;rw[←j2] at h1;rw[←k2] at h2;have e:a.2=b.2:=by omega
 have e2:a.1=b.1:=by
  rcases h1 with h1 | ⟨_,h1⟩
  ·omega
  ·rcases h2 with h2 | ⟨_,h2⟩
   ·omega
   ·exact Zqi h2 h1
 exact Prod.ext e2 e
theorem ZkS {x y z:List Int} (h1:befB x y=false) (h2:befB y z=false):befB x z=false:=by
 rw[Ze0] at h1 h2 ⊢;simp only[decide_eq_false_iff_not] at h1 h2 ⊢;exact Zd9 h1 h2
theorem Zn7 {c:Cs} (hc:CaseP c) (L:Nat):∀k,(fbSt c L k=([], -1)∧∀j,j<k→frO c L j=none)∨(∃q,q<k∧(fbSt c L k).1=pns (bitS q) c.1.length∧frO c L q=some (fbSt c L k).2∧∀j,j<k→∀u,frO c L j=some u→(fbSt c L k).2<u∨((fbSt c L k).2=u∧befB (pns (bitS j) c.1.length) (fbSt c L k).1=false))
 | 0=> .inl ⟨rfl,fun j hj=>by omega⟩
 | k+1=>by
  have ih:=Zn7 hc L k;cases hf:frO c L k with
  | none=>
   have e:fbSt c L (k+1)=fbSt c L k:=by simp only[fbSt,hf]
   rw[e];rcases ih with ⟨h1,h2⟩ | ⟨q,q1,q2,q3,q4⟩
   ·refine .inl ⟨h1,fun j hj=> ?_⟩
    by_cases ej:j=k
    ·subst ej;exact hf
    ·exact h2 j (by omega)
   ·refine .inr ⟨q,by omega,q2,q3,fun j hj u hu=> ?_⟩
    by_cases ej:j=k
    ·subst ej;rw[hf] at hu;cases hu
    ·exact q4 j (by omega) u hu
  | some v=>
   have hv:=ZlN hc hf;cases ht:tk (fbSt c L k).2 v (befB (pns (bitS k) c.1.length) (fbSt c L k).1) with
   | true=>
    have e:fbSt c L (k+1)=(pns (bitS k) c.1.length,v):=by simp only[fbSt,hf,ht,Xd]
    rw[e];refine .inr ⟨k,by omega,rfl,hf,fun j hj u hu=> ?_⟩;by_cases ej:j=k
    ·subst ej;rw[hf] at hu;cases hu;exact .inr ⟨rfl,ZlO _⟩
    ·rcases ih with ⟨h1,h2⟩ | ⟨q,q1,q2,q3,q4⟩
     ·rw[h2 j (by omega)] at hu;cases hu
     ·have hq:=ZlN hc q3
      simp only[tk,Bool.or_eq_true,Xh,Xi] at ht;have:=q4 j (by omega) u hu;rcases ht with ht | ht | ⟨ht,hb⟩
      ·omega
      ·left;show v<u;omega
      ·rcases this with h | ⟨h,h3⟩
       ·left;show v<u;omega
       ·right
        refine ⟨by show v=u;omega, ?_⟩
        show befB (pns (bitS j) c.1.length) (pns (bitS k) c.1.length)=false;refine ZkS h3 ?_;rw[Ze0] at hb ⊢;simp only[Xi,decide_eq_false_iff_not] at hb ⊢;have:=ZcO (pns (bitS k) c.1.length) (fbSt c L k).1;omega
   | false=>
    have e:fbSt c L (k+1)=fbSt c L k:=by simp only[fbSt,hf,ht,Xe]
    rw[e];simp only[tk,Bool.or_eq_false_iff,decide_eq_false_iff_not] at ht;obtain ⟨t1,t2,t3⟩:=ht;rcases ih with ⟨h1,h2⟩ | ⟨q,q1,q2,q3,q4⟩
    ·rw[h1] at t1;exact absurd (show (-1:Int)<0 by omega) t1
    ·refine .inr ⟨q,by omega,q2,q3,fun j hj u hu=> ?_⟩
     by_cases ej:j=k
     ·subst ej
      rw[hf] at hu;cases hu;by_cases q5:v=(fbSt c L j).2
      ·right
       refine ⟨q5.symm, ?_⟩
       simpa [q5] using t3
      ·left;omega
     ·exact q4 j (by omega) u hu
theorem Zn8 {c:Cs} (hc:CaseP c) (L:Nat) {Z:List (List Int)} (hZ:∀i,i<Z.length→perP c.1.length (gd Z i [])):∀k,k≤Z.length→(fiSt c L Z k=([],1099511627776)∧∀j,j<k→frL c L (gd Z j []) c.1.length=none)∨(∃q,q<k∧(fiSt c L Z k).1=gd Z q []∧frL c L (gd Z q []) c.1.length=some (fiSt c L Z k).2∧∀j,j<k→∀u,frL c L (gd Z j []) c.1.length=some u→(fiSt c L Z k).2<u∨((fiSt c L Z k).2=u∧q≤j))
 | 0,_=> .inl ⟨rfl,fun j hj=>by omega⟩
 | k+1,hk=>by
  have hn:=hc.n;have ih:=Zn8 hc L hZ k (by omega);cases hf:frL c L (gd Z k []) c.1.length with
  | none=>
   have e:fiSt c L Z (k+1)=fiSt c L Z k:=by simp only[fiSt,hf]
   rw[e];rcases ih with ⟨h1,h2⟩ | ⟨q,q1,q2,q3,q4⟩
   ·refine .inl ⟨h1,fun j hj=> ?_⟩
    by_cases ej:j=k
    ·subst ej;exact hf
    ·exact h2 j (by omega)
   ·refine .inr ⟨q,by omega,q2,q3,fun j hj u hu=> ?_⟩
    by_cases ej:j=k
    ·subst ej;rw[hf] at hu;cases hu
    ·exact q4 j (by omega) u hu
  | some v=>
   have hv:=Zj9 hc (hZ k (by omega)) c.1.length (Xl _) v hf;by_cases ht:v<(fiSt c L Z k).2
   ·have e:fiSt c L Z (k+1)=(gd Z k [],v):=by simp only[fiSt,hf,ht,if_true]
    rw[e];refine .inr ⟨k,by omega,rfl,hf,fun j hj u hu=> ?_⟩;by_cases ej:j=k
    ·subst ej;rw[hf] at hu;cases hu;exact .inr ⟨rfl,Xl _⟩
    ·rcases ih with ⟨h1,h2⟩ | ⟨q,q1,q2,q3,q4⟩
     ·rw[h2 j (by omega)] at hu;cases hu
     ·have:=q4 j (by omega) u hu
      left;show v<u;omega
   ·have e:fiSt c L Z (k+1)=fiSt c L Z k:=by simp only[fiSt,hf,ht,if_false]
    rw[e];rcases ih with ⟨h1,h2⟩ | ⟨q,q1,q2,q3,q4⟩
    ·rw[h1] at ht;exact absurd (show v<1099511627776 by omega) ht
    ·refine .inr ⟨q,by omega,q2,q3,fun j hj u hu=> ?_⟩
     by_cases ej:j=k
     ·subst ej
      rw[hf] at hu;cases hu;by_cases q5:v=(fiSt c L Z j).2
      ·exact .inr ⟨q5.symm,by omega⟩
      ·left;omega
     ·exact q4 j (by omega) u hu
theorem Zpc {c:Cs} {L:Nat} {S:Nat→Bool} {t i:Nat} (hi:i<c.1.length) (hS:S i=true) (hit:i≤t) (hL:t<i+L):∃r,mnL c L (pns S c.1.length) t (pns S c.1.length).length=some r∧r≤rateOf c i t:=by
 obtain ⟨h1,h2⟩:=Zh4 hi hS;have hok:okL L t (gd (pns S c.1.length) (cnt S i) 0)=true:=by
  rw[h2];simp only[okL,inRg,Xh,Xi];omega
 rcases ZlK c L (pns S c.1.length) t (pns S c.1.length).length with ⟨_,h3⟩ | ⟨r,h3,_,h4⟩
 ·rw[h3 _ h1] at hok;cases hok
 ·refine ⟨r,h3, ?_⟩
  have:=h4 _ h1 hok
  rwa [h2,Xj] at this
theorem ZlP {c:Cs} {L:Nat} {ps:List Int} (h:∀t,t<c.1.length→0<gd c.1 t 0→∃r,mnL c L ps t ps.length=some r):∀t,t≤c.1.length→∃s,frL c L ps t=some s
 | 0,_=>⟨_,rfl⟩
 | t+1,ht=>by
  obtain ⟨s,hs⟩:=ZlP h t (by omega);simp only[frL,hs];by_cases q:0<gd c.1 t 0
  ·obtain ⟨r,hr⟩:=h t (by omega) q
   simp only[q,if_true,hr];exact ⟨_,rfl⟩
  ·simp only[q,if_false];exact ⟨_,rfl⟩
theorem Zn9 {c:Cs} {L:Nat} (hL:1≤L):∃k v,k<2 ^ c.1.length∧frO c L k=some v:=by
 obtain ⟨k,k1,k2⟩:=ZkI (fun _=>true) c.1.length;obtain ⟨v,hv⟩:=ZlP (c:=c) (L:=L) (ps:=pns (bitS k) c.1.length) (fun t ht _=>by
  obtain ⟨r,hr,_⟩:=Zpc (c:=c) (L:=L) (S:=bitS k) (t:=t) ht (k2 t ht) (Xl _) (by omega);exact ⟨r,hr⟩) c.1.length (Xl _)
 exact ⟨k,v,k1,hv⟩
theorem Zoa {c:Cs} (hc:CaseP c) {L:Nat} (hL:1≤L):isBest c L (fbSt c L (2 ^ c.1.length)):=by
 obtain ⟨k,v,k1,k2⟩:=Zn9 (c:=c) hL;rcases Zn7 hc L (2 ^ c.1.length) with ⟨_,h⟩ | ⟨q,q1,q2,q3,q4⟩
 ·rw[h k k1] at k2;cases k2
 ·exact ⟨q,q1,q2,q3,q4⟩
theorem Zqj {c:Cs} (hc:CaseP c) {L:Nat} (hL:1≤L):isBest c L (fiSt c L (sortL c.1.length) (2 ^ c.1.length)):=by
 have hl:=Zj7 c.1.length;have hZ:∀i,i<(sortL c.1.length).length→perP c.1.length (gd (sortL c.1.length) i []):=fun i hi=>by
  obtain ⟨k,_,hk⟩:=ZiW hi;rw[hk];exact Zgo _ _
 have hat:∀k,k<2 ^ c.1.length→∃i,i<(sortL c.1.length).length∧gd (sortL c.1.length) i []=pns (bitS k) c.1.length:=fun k hk=>by
  have:pns (bitS k) c.1.length∈sortL c.1.length:=Zj6.2 ⟨k,hk,rfl⟩;obtain ⟨i,hi,e⟩:=List.getElem_of_mem this;exact ⟨i,hi,by simp only[gd,List.getD_eq_getElem?_getD,List.getElem?_eq_getElem hi,Option.getD_some,e]⟩
 rcases Zn8 hc L hZ (2 ^ c.1.length) (by omega) with ⟨_,h⟩ | ⟨q,q1,q2,q3,q4⟩
 ·obtain ⟨k,v,k1,k2⟩:=Zn9 (c:=c) hL
  obtain ⟨i,hi,e⟩:=hat k k1;have:=h i (by omega);rw[e] at this;have k2':frL c L (pns (bitS k) c.1.length) c.1.length=some v:=k2;rw[this] at k2';cases k2'
 ·obtain ⟨k,k1,hk⟩:=ZiW (n:=c.1.length) (i:=q) (by omega)
  refine ⟨k,k1,by rw[q2,hk],by show frL c L (pns (bitS k) c.1.length) c.1.length=_;rw[←hk];exact q3,fun j hj u hu=> ?_⟩
  obtain ⟨i,hi,e⟩:=hat j hj;have hu':frL c L (gd (sortL c.1.length) i []) c.1.length=some u:=by rw[e];exact hu
  rcases q4 i (by omega) u hu' with h | ⟨h1,h2⟩
  ·exact .inl h
  ·refine .inr ⟨h1, ?_⟩
   rw[q2,←e];by_cases eq:q=i
   ·subst eq;exact ZlO _
   ·exact Zpb (by omega) hi
theorem Zra {c:Cs} (hc:CaseP c) {L:Nat} (hL:1≤L):fiSt c L (sortL c.1.length) (2 ^ c.1.length)=fbSt c L (2 ^ c.1.length):=Zmw (Zqj hc hL) (Zoa hc hL)
theorem rsum_one {f g:Nat→Int}:∀ {n:Nat},(∀p,p<n→f p≤g p)→∀i,i<n→g i - f i≤rsum g n - rsum f n
 | 0,_,i,hi=>by omega
 | n+1,h,i,hi=>by
  simp only[rsum];have h1:=h n (by omega);by_cases e:i=n
  ·subst e
   have:=ZnF (f:=f) (g:=g) (n:=i) (fun p hp=>h p (by omega))
   omega
  ·have:=rsum_one (n:=n) (fun p hp=>h p (by omega)) i (by omega)
   omega
noncomputable def fbV (c:Cs) (L:Nat):Int:=(fbSt c L (2 ^ c.1.length)).2
theorem ZqT {c:Cs} (hc:CaseP c) {L:Nat} (hL:1≤L):0≤fbV c L∧fbV c L≤13760:=by
 obtain ⟨k,_,_,h,_⟩:=Zoa hc hL;exact ZlN hc h
noncomputable def bfOf (c:Cs) (life:Int):List Int×Int×Bool:=bif caseB c && inRg 1 8 life then ((fbSt c life.toNat (2 ^ c.1.length)).1,(fbV c life.toNat,true)) else ([],(0,false))
theorem ZiY {life:Int} (h:inRg 1 8 life=true):((life.toNat:Nat):Int)=life∧1≤life.toNat∧life.toNat≤8:=by
 simp only[inRg,Xh,Xi] at h;omega
theorem Zfx {N:Nat} {c:Cs} (hs:SmC c) (life:Int) (hN:4194304≤N):Q6 N c life=some (bfOf c life,()):=by
 simp only[Q6,ZK hs hN,Xa,Zt,bfOf,Q62,Zz];cases h:caseB c with
 | false=>rfl
 | true=>
  have hc:=ZB.1 h;cases h2:inRg 1 8 life with
  | false=>rfl
  | true=>
   obtain ⟨e,l1,l2⟩:=ZiY h2;have:=Zc7 (N:=N) hc l2 hN;rw[e,Zra hc l1] at this;simp only[Xd,Bool.true_and,this,Xa,fbV]
theorem Zfy {N:Nat} {c:Cs} (hs:SmC c) (life:Int) (hN:4194304≤N):Q94 N c life=some (bfOf c life,()):=by
 simp only[Q94,Q170,ZL hs hN,Xa,Zt,bfOf,ZI];cases h:caseB c with
 | false=>rfl
 | true=>
  have hc:=ZB.1 h;simp only[Xd,Xa,Bool.true_and];cases h2:inRg 1 8 life with
  | false=>rfl
  | true=>
   obtain ⟨e,l1,l2⟩:=ZiY h2;have:=Zhv (N:=N) hc l2 hN;rw[e] at this;simp only[Xd,this,Xa,fbV]
def wordC (c:Cs) (t:Nat):List UInt8:=numT (gd c.1 t 0)++[47]++numT (gd c.2.1 t 0)++[47]++numT (gd c.2.2.1 t 0)++[47]++numT (gd c.2.2.2 t 0)
def textC (c:Cs):List UInt8:=if c.1.length=0 then [110,111,110,101] else wordsT 32 (wordC c) c.1.length
theorem CaseP.at {c:Cs} (hc:CaseP c) {t:Nat} (ht:t<c.1.length):(0≤gd c.1 t 0∧gd c.1 t 0≤20)∧(0≤gd c.2.1 t 0∧gd c.2.1 t 0≤99)∧(0≤gd c.2.2.1 t 0∧gd c.2.2.1 t 0≤9)∧(0≤gd c.2.2.2 t 0∧gd c.2.2.2 t 0≤9):=by
 have l1:=hc.l1;have l2:=hc.l2;have l3:=hc.l3;exact ⟨hc.b0 t ht,hc.b1 t (by omega),hc.b2 t (by omega),hc.b3 t (by omega)⟩
theorem Zhg {c:Cs} (hc:CaseP c) {t:Nat} (ht:t<c.1.length):(wordC c t).length≤40:=by
 obtain ⟨a,b,d,e⟩:=hc.at ht;have h1:=ZJ (k:=gd c.1 t 0) (by omega) (by omega);have h2:=ZJ (k:=gd c.2.1 t 0) (by omega) (by omega);have h3:=ZJ (k:=gd c.2.2.1 t 0) (by omega) (by omega);have h4:=ZJ (k:=gd c.2.2.2 t 0) (by omega) (by omega);simp only[wordC,Xm,List.length_cons,List.length_nil];omega
theorem Zob {c:Cs} (hc:CaseP c):(textC c).length≤400:=by
 unfold textC;have h8:=hc.n;by_cases h:c.1.length=0
 ·rw[if_pos h];simp
 ·rw[if_neg h]
  have:=Zbg 32 (wordC c) (k:=40) c.1.length (fun i hi=>Zhg hc hi);have h2:c.1.length*(40+1)≤8*41:=Nat.mul_le_mul h8 (Xl _);omega
theorem ZfZ {N:Nat} {l:List Int} (hl:l.length≤100) (hb:∀i,i<l.length→0≤gd l i 0∧gd l i 0<1000000) (c:UInt8) (hN:4194304≤N):Q59 N l (txt [c])=some (txt (wordsT c (fun i=>numT (gd l i 0)) l.length),()):=by
 simp only[Q59,len_eq];refine Q59_L1_run N (fun _=>txt [c]) (fun _=>l) (fun _=>(l.length:Int)) (fun i=>(i:Int)) (fun i=>(List.range i).map fun i=>txt (numT (gd l i 0))) l.length (fun i hi kx=> ?_) (fun kx=> ?_) N (by omega)
 ·have b:=hb i hi
  simp only[Q59_B1,ilt_eq,Xk,hi,Xf,Xd,Zb hi,chk_true',Xj,Zar (n:=gd l i 0) (by omega) (by omega),Xa,Z8];rw[Zf (Zn (n:=i+1) (b:=16) (by omega) (by omega)),Zc (show i<4611686018427387904 by omega),List.range_succ,List.map_append,List.map_cons,List.map_nil]
 ·simp only[Q59_B1,Q59_K1,ilt_eq,Xn,Xg,Xe]
  rw[Za6 (k:=6) (by omega) (by omega) (fun i hi=>ZJ (hb i hi).1 (hb i hi).2)];rfl
theorem ZiZ {N:Nat} {a b c d:Int} (ha:0≤a∧a<1000000) (hb:0≤b∧b<1000000) (hc:0≤c∧c<1000000) (hd:0≤d∧d<1000000) (hN:4194304≤N):Q59 N [a,b,c,d] ⟨#[47]⟩=some (txt (numT a++[47]++numT b++[47]++numT c++[47]++numT d),()):=by
 have h:=ZfZ (N:=N) (l:=[a,b,c,d]) (by simp) (fun i hi=>by
  match i,hi with
  | 0,_=>exact ha
  | 1,_=>exact hb
  | 2,_=>exact hc
  | 3,_=>exact hd
  | n+4,h=>simp at h;omega) 47 hN
 have g0:gd [a,b,c,d] 0 0=a:=rfl;have g1:gd [a,b,c,d] 1 0=b:=rfl;have g2:gd [a,b,c,d] 2 0=c:=rfl;have g3:gd [a,b,c,d] 3 0=d:=rfl;have e:wordsT 47 (fun i=>numT (gd [a,b,c,d] i 0)) 4=numT a++[47]++numT b++[47]++numT c++[47]++numT d:=by
  rw[wordsT_succ 47 _ (show 0<3 by omega),wordsT_succ 47 _ (show 0<2 by omega),wordsT_succ 47 _ (show 0<1 by omega),ZbP];simp only[g0,g1,g2,g3]
 rw[show [a,b,c,d].length=4 from rfl,e] at h;exact h
theorem Zf0 {N:Nat} {c:Cs} (hc:CaseP c) (hN:4194304≤N):Q56 N c=some (txt (textC c),()):=by
 have h8:=hc.n;have l1:=hc.l1;have l2:=hc.l2;have l3:=hc.l3;simp only[Q56,len_eq];refine Q56_L1_run N (fun _=>c.1) (fun _=>(c.1.length:Int)) (fun t=>(t:Int)) (fun _=>c) (fun t=>(List.range t).map fun i=>txt (wordC c i)) c.1.length (fun t ht kx=> ?_) (fun kx=> ?_) N (by omega)
 ·obtain ⟨a,b,d,e⟩:=hc.at ht
  simp only[Q56_B1,ilt_eq,Xk,ht,Xf,Xd,Zb ht,Zb (show t<c.2.1.length by omega),Zb (show t<c.2.2.1.length by omega),Zb (show t<c.2.2.2.length by omega),chk_true',Xj];rw[ZiZ (by omega) (by omega) (by omega) (by omega) hN,Xa,Zf (Zn (by rw[Z8];omega) (by omega)),Zc (show t<4611686018427387904 by omega),List.range_succ,List.map_append,List.map_cons,List.map_nil]
  rfl
 ·simp only[Q56_B1,Q56_K1,ilt_eq,Xn,Xg,Xe,ieq_eq,len_eq,Z8,show (⟨#[32]⟩:Xo)=txt [32] from rfl,textC]
  by_cases h:c.1.length=0
  ·simp only[h,Int.natCast_eq_zero,Xf,Xd,if_true];rfl
  ·rw[Xb (show ¬(c.1.length:Int)=0 by omega),Xe,if_neg h,Za6 (k:=40) (by omega) (by omega) (fun i hi=>Zhg hc hi)]
   rfl
theorem Zhw {N:Nat} {c:Cs} (hc:CaseP c) (hN:4194304≤N):Q159 N c=some (txt (textC c),()):=by
 have h8:=hc.n;have l1:=hc.l1;have l2:=hc.l2;have l3:=hc.l3;simp only[Q159,show (⟨#[]⟩:Xo)=txt [] from rfl];refine Q159_L1_run N (fun t=>txt (wordsT 32 (wordC c) t)) (fun t=>(t:Int)) (fun _=>c) c.1.length (fun t ht kx=> ?_) (fun kx=> ?_) N (by omega)
 ·obtain ⟨a,b,d,e⟩:=hc.at ht
  have h1:=ZJ (k:=gd c.1 t 0) (by omega) (by omega);have h2:=ZJ (k:=gd c.2.1 t 0) (by omega) (by omega);have h3:=ZJ (k:=gd c.2.2.1 t 0) (by omega) (by omega);have h4:=ZJ (k:=gd c.2.2.2 t 0) (by omega) (by omega);have lw:=Zbg 32 (wordC c) (k:=40) t (fun i hi=>Zhg hc (by omega))
  have lw2:t*(40+1)≤8*41:=Nat.mul_le_mul (by omega) (Xl _);have hK:∀s:List UInt8,s.length≤1000→Q159_K1 N kx (txt s) (t:Int) c=kx (txt (s++wordC c t)) ((t+1:Nat):Int) c:=fun s hs=>by
   simp only[Q159_K1,Zb ht,Zb (show t<c.2.1.length by omega),Zb (show t<c.2.2.1.length by omega),Zb (show t<c.2.2.2.length by omega),chk_true',Xj,Zu (n:=gd c.1 t 0) (by omega) (by omega) hN,Zu (n:=gd c.2.1 t 0) (by omega) (by omega) hN,Zu (n:=gd c.2.2.1 t 0) (by omega) (by omega) hN,Zu (n:=gd c.2.2.2 t 0) (by omega) (by omega) hN,Xa,show (⟨#[47]⟩:Xo)=txt [47] from rfl,Zau];have sf:∀x y:List UInt8,x.length≤2000→y.length≤2000→sfit (txt x) (txt y)=true:=fun x y hx hy=>Zy (by rw[Zd,Zd,Zg,Zg];omega)
   rw[sf _ _ (by omega) (by omega),chk_true',sf _ _ (by simp;omega) (by simp),chk_true',sf _ _ (by simp;omega) (by omega),chk_true',sf _ _ (by simp;omega) (by simp),chk_true',sf _ _ (by simp;omega) (by omega),chk_true',sf _ _ (by simp;omega) (by simp),chk_true',sf _ _ (by simp;omega) (by omega),chk_true',Zc (show t<4611686018427387904 by omega)]
   simp only[wordC,List.append_assoc]
  simp only[Q159_B1,ilt_eq,len_eq,Xk,ht,Xf,Xd,show (⟨#[32]⟩:Xo)=txt [32] from rfl];by_cases h0:t=0
  ·subst h0
   simp only[show ¬(0:Int)<((0:Nat):Int) by omega,Xg,Xe];rw[hK _ (by simp [ZaQ]),ZaQ,Nat.zero_add,ZbP];rfl
  ·simp only[show (0:Int)<(t:Int) by omega,Xf,Xd,Zau]
   rw[Zy (by rw[Zd,Zd,Zg,Zg];simp;omega),chk_true',hK _ (by simp;omega),wordsT_succ 32 _ (show 0<t by omega)]
 ·simp only[Q159_B1,Q159_K2,ilt_eq,len_eq,Xn,Xg,Xe,ieq_eq,textC,show (⟨#[110,111,110,101]⟩:Xo)=txt [110,111,110,101] from rfl]
  by_cases h:c.1.length=0
  ·rw[Xc (show (c.1.length:Int)=0 by omega),if_pos h];rfl
  ·rw[Xb (show ¬(c.1.length:Int)=0 by omega),if_neg h];rfl
def ctxP (c:Cs):Xo×Bool:=bif caseB c then (txt (textC c),true) else (⟨#[]⟩,false)
theorem Zf1 {N:Nat} {c:Cs} (hs:SmC c) (hN:4194304≤N):Q7 N c=some (ctxP c,()):=by
 simp only[Q7,ZK hs hN,Xa,Zt,ctxP];cases hb:caseB c with
 | false=>rfl
 | true=>simp only[Xd,Zf0 (ZB.1 hb) hN,Xa]
theorem Zie (c b:UInt8) (l:List UInt8):Lib.index (b::l) [c]=if b=c then 0 else if Lib.index l [c]= -1 then -1 else Lib.index l [c]+1:=by
 rw[Lib.index];by_cases h:b=c
 ·subst h;simp [List.isPrefixOf]
 ·have hp:([c]:List UInt8).isPrefixOf (b::l)=false:=by simp [List.isPrefixOf,Ne.symm h]
  rw[hp,if_neg h];simp
theorem ZlQ (c:UInt8):∀(l a:List UInt8),Lib.index l [c]= -1→spl c a l=[a++l]
 | [],a,_=>by simp [spl]
 | b::l,a,h=>by
  rw[Zie] at h;by_cases hb:b=c
  ·rw[if_pos hb] at h;omega
  ·rw[if_neg hb] at h
   have hge:=Lib.index_ge l [c];by_cases h2:Lib.index l [c]= -1
   ·rw[spl,if_neg hb,ZlQ c l _ h2];simp
   ·rw[if_neg h2] at h;omega
theorem Zoc (c:UInt8):∀(l a:List UInt8) (j:Nat),Lib.index l [c]=(j:Nat)→spl c a l=(a++l.take j)::spl c [] (l.drop (j+1))
 | [],a,j,h=>by simp [Lib.index] at h
 | b::l,a,j,h=>by
  rw[Zie] at h;by_cases hb:b=c
  ·rw[if_pos hb] at h
   obtain rfl:j=0:=by omega
   rw[spl,if_pos hb];simp
  ·rw[if_neg hb] at h
   have hge:=Lib.index_ge l [c];by_cases h2:Lib.index l [c]= -1
   ·rw[if_pos h2] at h;omega
   ·rw[if_neg h2] at h
    obtain ⟨i,rfl⟩:∃i,j=i+1:=⟨j - 1,by omega⟩
    rw[spl,if_neg hb,Zoc c l _ i (by omega)];simp
theorem Zif (c:UInt8):∀(k:Nat) (l:List UInt8),Lib.count l [c]=k→Lib.splitK [c] 0 k l=spl c [] l
 | 0,l,h=>by
  have hge:=Lib.index_ge l [c];by_cases h2:Lib.index l [c]= -1
  ·rw[ZlQ c l [] h2];rfl
  ·have:=Lib.count_hit (s:=l) (sub:=[c]) (i:=(Lib.index l [c]).toNat) (by simp) (by omega)
   omega
 | k+1,l,h=>by
  have hge:=Lib.index_ge l [c];by_cases h2:Lib.index l [c]= -1
  ·rw[Lib.count_miss h2] at h;omega
  ·obtain ⟨i,hi⟩:∃i:Nat,Lib.index l [c]=i:=⟨(Lib.index l [c]).toNat,by omega⟩
   have h3:=Lib.count_hit (s:=l) (sub:=[c]) (i:=i) (by simp) hi;rw[Lib.splitK,if_neg (by simpa using h2),hi,Zoc c l [] i hi,Xj,Nat.add_zero,List.nil_append,List.length_singleton,Zif c k _ (by simp at h3;omega)]
theorem Zf2 {N:Nat} {l:List UInt8} {c:UInt8} (h:l.length<4294967281):strings_Split N (txt l) (txt [c])=some ((spl c [] l).map txt,()):=by
 have h1:(decide ((txt l).size<4294967281) && decide (1≤(txt [c]).size))=true:=by
  simp only[Xh,Xi];exact ⟨h,Xl 1⟩
 have h2:(Lib.splitB (txt [c]) 0 (Lib.countB (txt l) (txt [c])) (txt l)).map (·.data.toList)=spl c [] l:=by
  rw[Lib.splitB_data];exact Zif c _ l rfl
 have h3:∀xs:List Xo,(xs.map (·.data.toList)).map txt=xs:=fun xs=>by
  rw[List.map_map]
  conv=>rhs;rw[←List.map_id xs]
  exact List.map_congr_left fun x _=>Zef rfl
 simp only[strings_Split,h1,chk_true'];rw[←h3 (Lib.splitB (txt [c]) 0 (Lib.countB (txt l) (txt [c])) (txt l)),h2]
theorem ZfL (b:UInt8):∀(l:List UInt8) (acc n d:Nat),Lib.decFrom acc l=some n→Lib.digitVal b=some d→Lib.decFrom acc (l++[b])=some (n*10+d)
 | [],acc,n,d,h,hd=>by
  simp only[Lib.decFrom,Option.some.injEq] at h;subst h;simp [Lib.decFrom,hd]
 | a::l,acc,n,d,h,hd=>by
  simp only[List.cons_append,Lib.decFrom] at h ⊢;cases ha:Lib.digitVal a with
  | none=>rw[ha] at h;cases h
  | some e=>rw[ha] at h;exact ZfL b l _ n d h hd
theorem ZlR {d:Nat} (h:d<10):Lib.digitVal (UInt8.ofNat (48+d))=some d:=by
 have e:(UInt8.ofNat (48+d)).toNat=48+d:=by rw[UInt8.toNat_ofNat'];omega
 unfold Lib.digitVal;rw[e,if_pos (by omega)]
 congr 1;omega
theorem Zhh (u:Nat):Lib.decFrom 0 (Lib.decDigits u)=some u:=by
 induction u using Nat.strongRecOn with
 | _ u ih=>
  rw[Lib.decDigits];by_cases hu:u<10
  ·rw[dif_pos hu]
   simp only[Lib.decFrom,ZlR hu]
   congr 1;omega
  ·rw[dif_neg hu]
   rw[ZfL _ _ _ _ _ (ih (u / 10) (by omega)) (ZlR (Nat.mod_lt _ (by omega)))]
   congr 1;omega
theorem ZlS {k:Int} (h0:0≤k):Lib.atoi (numT k)=some k:=by
 obtain ⟨u,rfl⟩:∃u:Nat,k=(u:Int):=⟨k.toNat,by omega⟩
 have hm:=ZcW (k:=(u:Int)) h0;have hd:=Zhh u;rw[ZcU] at hm ⊢;cases hl:Lib.decDigits u with
 | nil=>rw[Lib.decDigits] at hl;split at hl<;>simp at hl
 | cons b r=>
  rw[hl] at hm hd;have hb:=hm b (by simp);have n1:(b==45)=false:=by simp;rintro rfl;simp at hb
  have n2:(b==43)=false:=by simp;rintro rfl;simp at hb
  simp only[Lib.atoi,n1,n2,Bool.false_eq_true,if_false,Lib.decNat,List.isEmpty_cons,hd,Option.map_some]
def atV (s:Xo):Int:=(Lib.atoi s.data.toList).getD 0
def piB (s:Xo):Bool:=decide (s.size≤7) && ((Lib.atoi s.data.toList).isSome && (inRg (-999999) 999999 (atV s) && decide (txt (numT (atV s))=s)))
theorem Zf3 (N:Nat) (s:Xo):Q44 N s=some (bif piB s then (atV s,true) else (0,false),()):=by
 simp only[Q44,ilt_eq,slen,piB];by_cases h:s.size≤7
 ·simp only[show ¬(7:Int)<(s.size:Int) by omega,Xg,Xe,strconv_Atoi,Xc (show s.size≤18 by omega),chk_true',Xa,Zt,Xc h,Bool.true_and]
  cases h1:(Lib.atoi s.data.toList).isSome with
  | false=>rfl
  | true=>
   simp only[Xd,Zz,Xa,Bool.true_and];rw[show (Lib.atoi s.data.toList).getD 0=atV s from rfl];cases h2:inRg (-999999) 999999 (atV s) with
   | false=>rfl
   | true=>
    have h3:=h2;simp only[inRg,Xh,Xi] at h3;simp only[Xd,Zar (n:=atV s) (by omega) (by omega),Xa,Zb1,Bool.true_and];cases decide (txt (numT (atV s))=s)<;>rfl
 ·simp only[show (7:Int)<(s.size:Int) by omega,h,Xf,Xg,Xd,Bool.false_and,Xe]
theorem ZqU {k:Int} (h0:0≤k) (h1:k<1000000):atV (txt (numT k))=k∧piB (txt (numT k))=true:=by
 have e:atV (txt (numT k))=k:=by
  unfold atV;rw[show (txt (numT k)).data.toList=numT k from rfl,ZlS h0];rfl
 refine ⟨e, ?_⟩;have hl:=ZJ h0 h1;simp only[piB,e,inRg,show (txt (numT k)).data.toList=numT k from rfl,ZlS h0,Option.isSome_some,Xh,Xi,true_and,and_true];exact ⟨by show (numT k).length≤7;omega,by omega,by omega⟩
def wsOf (c:UInt8) (s:Xo):List Xo:=(spl c [] (bts s)).map txt
theorem Zi0 (c:UInt8) (s:Xo):(wsOf c s).length≤s.size+1:=by
 unfold wsOf;rw[List.length_map,Zd];exact ZnR c _ _
theorem ZlT {N:Nat} {s:Xo} {c:UInt8} (h:s.size<100000):strings_Split N s (txt [c])=some (wsOf c s,()):=by
 have:=Zf2 (N:=N) (l:=bts s) (c:=c) (by rw[←Zd];omega)
 rw[ZnK] at this;exact this
def dgB (s:Xo) (i:Nat):Bool:=decide (48≤chr s i) && decide (chr s i≤57)
def dv (s:Xo):Nat→Int
 | 0=>0
 | i+1=>10*dv s i+((chr s i:Int) - 48)
theorem Zpd {s:Xo}:∀n,(∀i,i<n→dgB s i=true)→0≤dv s n∧dv s n<10 ^ n
 | 0,_=>⟨Int.le_refl _,by simp [dv]⟩
 | n+1,h=>by
  obtain ⟨h1,h2⟩:=Zpd n (fun i hi=>h i (by omega))
  have h3:=h n (by omega);simp only[dgB,Xh,Xi] at h3;have e:(10:Int) ^ (n+1)=10 ^ n*10:=Int.pow_succ 10 n;simp only[dv];omega
theorem pow6 {i:Nat} (h:i≤6):(10:Int) ^ i≤1000000:=by
 have h1:10 ^ i≤10 ^ 6:=Nat.pow_le_pow_right (by omega) h;have h2:((10 ^ i:Nat):Int)=(10:Int) ^ i:=by simp
 omega
theorem Zpe {x:Nat} (h1:48≤x) (h2:x≤57):icv .i64 (isub .u8 (x:Int) 48)=(x:Int) - 48:=by
 have e:isub .u8 (x:Int) 48=((x - 48:Nat):Int):=by
  simp [isub,IntKind.wrap,IntKind.bits,IntKind.signed];omega
 rw[e,Zg7 _ (by omega)];omega
def sgB (s:Xo):Bool:=decide (1<s.size) && decide (chr s 0=45)
def magT (s:Xo):Xo:=bif sgB s then scut s 1 (slen s) else s
def rdV (s:Xo):Int:=bif decide ((magT s).size<s.size) then 0 - dv (magT s) (magT s).size else dv (magT s) (magT s).size
def rdB (s:Xo):Bool:=(decide (1≤(magT s).size) && decide ((magT s).size≤6)) && ((List.range (magT s).size).all (dgB (magT s)) && decide (txt (numT (rdV s))=s))
theorem Zbh {N:Nat} {s t:Xo} (hN:4194304≤N):Q142_K2 N s t=some (bif (decide (1≤t.size) && decide (t.size≤6)) && ((List.range t.size).all (dgB t) && decide (txt (numT (bif decide (t.size<s.size) then 0 - dv t t.size else dv t t.size))=s)) then (bif decide (t.size<s.size) then 0 - dv t t.size else dv t t.size,true) else (0,false),()):=by
 simp only[Q142_K2,ZI,Xa,Zt,slen,inRg];by_cases h0:1≤t.size∧t.size≤6
 ·simp only[show (1:Int)≤(t.size:Int) by omega,show (t.size:Int)≤6 by omega,h0.1,h0.2,Xf,Bool.and_self,Xd,Bool.true_and]
  have step:∀i,i<t.size→(∀q,q<i→dgB t q=true)→∀kx,Q142_B1 N kx s t (dv t i) (i:Nat)=bif dgB t i then kx s t (dv t (i+1)) ((i+1:Nat):Int) else some ((0,false),()):=fun i hi hq kx=>by
   obtain ⟨b1,b2⟩:=Zpd i hq;have b3:=pow6 (i:=i) (by omega);simp only[Q142_B1,ilt_eq,slen,Xk,hi,Xf,Xd,Zb hi,chk_true',Zaq,dgB];by_cases c1:48≤chr t i
   ·by_cases c2:chr t i≤57
    ·rw[Xc c1,Xc c2,Xb (show ¬((chr t i:Nat):Int)<48 by omega),Xb (show ¬(57:Int)<((chr t i:Nat):Int) by omega)]
     simp only[Xe,Bool.and_self,Xd];rw[Zpe c1 c2,ZV (by omega) (by omega),Zh (by omega) (by omega),Zc (show i<4611686018427387904 by omega)];rfl
    ·rw[Xc c1,Xb c2,Xb (show ¬((chr t i:Nat):Int)<48 by omega),Xc (show (57:Int)<((chr t i:Nat):Int) by omega)]
     rfl
   ·rw[Xb c1,Xc (show ((chr t i:Nat):Int)<48 by omega)]
    rfl
  rcases Zed (dgB t) t.size with ⟨h1,h2⟩ | ⟨h1,j,h2,h4,h5⟩
  ·rw[h1]
   obtain ⟨b1,b2⟩:=Zpd t.size h2;have b3:=pow6 h0.2;refine Q142_L1_run N (fun _=>s) (fun _=>t) (fun i=>dv t i) (fun i=>(i:Int)) t.size (fun i hi kx=>by rw[step i hi (fun q hq=>h2 q (by omega)),h2 i hi];rfl) (fun kx=> ?_) N (by omega)
   simp only[Q142_B1,Q142_K1,ilt_eq,slen,Xn,Xg,Xe,Xk,Bool.true_and,Zv (show -9223372036854775808≤0 - dv t t.size by omega) (by omega)];by_cases c:t.size<s.size
   ·simp only[c,Xf,Xd,Zu (n:=0 - dv t t.size) (by omega) (by omega) hN,Xa,Zb1,Zt]
    cases decide (txt (numT (0 - dv t t.size))=s)<;>rfl
   ·simp only[c,Xg,Xe,Zu (n:=dv t t.size) (by omega) (by omega) hN,Xa,Zb1,Zt]
    cases decide (txt (numT (dv t t.size))=s)<;>rfl
  ·rw[h1]
   exact Q142_L1_run N (fun _=>s) (fun _=>t) (fun i=>dv t i) (fun i=>(i:Int)) j (fun i hi kx=>by rw[step i (by omega) (fun q hq=>h4 q (by omega)),h4 i hi];rfl) (fun kx=>by rw[step j h2 h4,h5];rfl) N (by omega)
 ·have e:(decide ((1:Int)≤(t.size:Int)) && decide ((t.size:Int)≤6))=false:=by
   simp only[Bool.and_eq_false_iff,decide_eq_false_iff_not];omega
  have e2:(decide (1≤t.size) && decide (t.size≤6))=false:=by
   simp only[Bool.and_eq_false_iff,decide_eq_false_iff_not];omega
  simp only[e,e2,Xe,Bool.false_and]
theorem Zhx {N:Nat} (s:Xo) (hN:4194304≤N):Q142 N s=some (bif rdB s then (rdV s,true) else (0,false),()):=by
 simp only[Q142,ilt_eq,slen,rdB,rdV,magT,sgB];by_cases h:1<s.size
 ·have h0:sbyte s 0=((chr s 0:Nat):Int):=Zaq s 0
  have hi:inB (0:Int) s.size=true:=ZaL (by omega) (by omega);simp only[show (1:Int)<(s.size:Int) by omega,h,Xf,Xd,hi,chk_true',h0,ieq_eq,Q142_K3,Bool.true_and,slen];by_cases c:chr s 0=45
  ·rw[Xc (show ((chr s 0:Nat):Int)=45 by omega),Xc c]
   simp only[Xd,Zf (ZA (l:=1) (h:=(s.size:Int)) (n:=s.size) (by omega) (by omega) (by omega))];exact Zbh hN
  ·rw[Xb (show ¬((chr s 0:Nat):Int)=45 by omega),Xb c]
   simp only[Xe];exact Zbh hN
 ·simp only[show ¬(1:Int)<(s.size:Int) by omega,h,Xg,Xe,Q142_K3,Bool.false_and]
  exact Zbh hN
theorem Zek (l:List UInt8) {i:Nat} (h:i<l.length):chr (txt l) i=(l[i]'h).toNat:=by
 have:=Zfu (txt l) i h;rw[Zg,List.getElem?_eq_getElem h,Option.some.injEq] at this;unfold chr;rw[←this]
theorem Zod (l m:List UInt8):∀n,n≤l.length→dv (txt (l++m)) n=dv (txt l) n
 | 0,_=>rfl
 | n+1,h=>by
  simp only[dv];rw[Zod l m n (by omega),Zek l (show n<l.length by omega),Zek (l++m) (show n<(l++m).length by rw[Xm];omega),List.getElem_append_left (show n<l.length by omega)]
theorem Zpy (u:Nat):dv (txt (Lib.decDigits u)) (Lib.decDigits u).length=u:=by
 have key:∀d:Nat,d<10→(UInt8.ofNat (48+d)).toNat=48+d:=fun d hd=>by
  rw[UInt8.toNat_ofNat'];omega
 induction u using Nat.strongRecOn with
 | _ u ih=>
  rw[Lib.decDigits];by_cases hu:u<10
  ·rw[dif_pos hu]
   simp only[List.length_singleton,dv,Zek [UInt8.ofNat (48+u)] (i:=0) (by simp),List.getElem_cons_zero,key u hu];omega
  ·rw[dif_neg hu,Xm,List.length_singleton]
   simp only[dv];rw[Zod _ _ _ (Xl _),ih (u / 10) (by omega),Zek _ (show (Lib.decDigits (u / 10)).length<(Lib.decDigits (u / 10)++[UInt8.ofNat (48+u % 10)]).length by simp),List.getElem_append_right (Xl _)];simp only[Nat.sub_self,List.getElem_cons_zero,key (u % 10) (Nat.mod_lt _ (by omega))];omega
theorem ZqV {k:Int} (h0:0≤k) (h1:k<1000000):rdV (txt (numT k))=k∧rdB (txt (numT k))=true:=by
 have hl:=ZJ h0 h1;have hm:=ZcW h0;have hdg:∀i,i<(numT k).length→dgB (txt (numT k)) i=true:=fun i hi=>by
  have:=hm _ (List.getElem_mem hi);simp only[dgB,Zek _ hi,Xh,Xi];exact this
 have hpos:0<(numT k).length:=by
  obtain ⟨u,rfl⟩:∃u:Nat,k=(u:Int):=⟨k.toNat,by omega⟩
  rw[ZcU,Lib.decDigits];split<;>simp
 have hsg:sgB (txt (numT k))=false:=by
  have:=hdg 0 hpos;simp only[dgB,Xh,Xi] at this;simp only[sgB,Bool.and_eq_false_iff,decide_eq_false_iff_not];omega
 have hmag:magT (txt (numT k))=txt (numT k):=by rw[magT,hsg];rfl
 have e:rdV (txt (numT k))=k:=by
  unfold rdV;rw[hmag,Xb (Nat.lt_irrefl _),Xe];obtain ⟨u,rfl⟩:∃u:Nat,k=(u:Int):=⟨k.toNat,by omega⟩
  rw[ZcU];exact Zpy u
 refine ⟨e, ?_⟩;have hsz:(txt (numT k)).size=(numT k).length:=rfl;simp only[rdB,hmag,e,hsz,Xh,Xi,and_true];exact ⟨⟨by omega,by omega⟩,Zbz.2 hdg⟩
theorem Zpf {N:Nat} {s:Xo} (c:UInt8) (h:s.size<1000000) (hN:4194304≤N):Q144 N s (c.toNat:Int)=some (wsOf c s,()):=by
 have:=Za4 (N:=N) (l:=bts s) (c:=c) (by rw[←Zd];omega) hN
 rw[ZnK] at this;exact this
theorem Zby {c:Cs} (hc:CaseP c):SmC c:=by
 have a0:=hc.n;have a1:=hc.l1;have a2:=hc.l2;have a3:=hc.l3;exact ⟨by omega,by omega,by omega,by omega⟩
theorem ZcB {N:Nat} {n:Int} (h: -999999≤n∧n≤999999):Q28 N n=some ((txt (numT n),true),()):=by
 have e:inRg (-999999) 999999 n=true:=by simp only[inRg,Xh,Xi];exact h
 simp only[Q28,Zz,e,Xa,Bool.not_true,Xe,Zar (n:=n) (by omega) (by omega)]
theorem Zhy {N:Nat} {n:Int} (h: -999999≤n∧n≤999999):Q65 N n true=some ((txt (numT n),true),()):=by
 simp only[Q65,Bool.not_true,Xe,ZcB h,Xa]
theorem Zhz (N:Nat) (n:Int):Q65 N n false=some ((⟨#[]⟩,false),()):=rfl
def wordsOf (l:List Int):Xo:=if l.length=0 then ⟨#[110,111,110,101]⟩ else txt (wordsT 32 (fun i=>numT (gd l i 0)) l.length)
theorem Zka {N:Nat} {l:List Int} (hl:l.length≤100) (hb:∀i,i<l.length→0≤gd l i 0∧gd l i 0≤999999) (hN:4194304≤N):Q64 N l true=some ((wordsOf l,true),()):=by
 simp only[Q64,Bool.not_true,Xe,len_eq];refine Q64_L1_run N (fun _=>l) (fun _=>(l.length:Int)) (fun i=>(i:Int)) (fun i=>(List.range i).map fun i=>txt (numT (gd l i 0))) l.length (fun i hi kx=> ?_) (fun kx=> ?_) N (by omega)
 ·have b:=hb i hi
  simp only[Q64_B1,ilt_eq,Xk,hi,Xf,Xd,Zb hi,chk_true',Xj,ZcB (n:=gd l i 0) ⟨by omega,b.2⟩,Xa,Z8,Bool.not_true,Xe];rw[Zf (Zn (n:=i+1) (b:=16) (by omega) (by omega)),Zc (show i<4611686018427387904 by omega),List.range_succ,List.map_append,List.map_cons,List.map_nil]
 ·simp only[Q64_B1,Q64_K1,ilt_eq,Xn,Xg,Xe,ieq_eq,len_eq,Z8,wordsOf,show (⟨#[32]⟩:Xo)=txt [32] from rfl]
  by_cases h:l.length=0
  ·rw[Xc (show (l.length:Int)=0 by omega),if_pos h];rfl
  ·rw[Xb (show ¬(l.length:Int)=0 by omega),Xe,if_neg h,Za6 (k:=6) (by omega) (by omega) (fun i hi=>ZJ (hb i hi).1 (by have:=(hb i hi).2;omega))]
   rfl
abbrev Con:Type:=Lg×Lo
def noLog:Lo:=(⟨#[]⟩,(⟨#[]⟩,0))
theorem Zpg:logB noLog=true:=by decide
theorem Zkb {n:Int} (h: -999999≤n∧n≤999999):(txt (numT n)).size<100000:=by
 have:=ZdH (n:=n) (by omega) (by omega);show (numT n).length<100000;omega
theorem ZfM {l:List Int} (hl:l.length≤100) (hb:∀i,i<l.length→0≤gd l i 0∧gd l i 0≤999999):(wordsOf l).size<100000:=by
 unfold wordsOf;by_cases h:l.length=0
 ·rw[if_pos h];decide
 ·rw[if_neg h]
  have h1:=Zbg 32 (fun i=>numT (gd l i 0)) (k:=6) l.length (fun i hi=>ZJ (hb i hi).1 (by have:=(hb i hi).2;omega))
  have h2:l.length*(6+1)≤100*7:=Nat.mul_le_mul hl (Xl _);show (wordsT 32 (fun i=>numT (gd l i 0)) l.length).length<100000
  omega
theorem Zph {l:Lg} (hb:ledB l=true): -999999≤(aheadOf l).1∧(aheadOf l).1≤999999:=by
 have hl:=(ZQ.1 hb).1;have hn:=hl.n;have h8:=hl.c.n;have hw:=hl.now;unfold aheadOf;rw[hb,Xd];cases ilt 0 (len (shortsL l)) with
 | true=>show -999999≤(0:Int)∧(0:Int)≤999999;omega
 | false=>
  have h:=Zbv (f:=fun k=>pcost l.1 l.2.1 (l.2.2.toNat+k)) (lo:= -20000) (hi:=20000) (n:=l.2.1.length - l.2.2.toNat) (fun i hi=>Zgd hl (by omega))
  show -999999≤rsum (fun k=>pcost l.1 l.2.1 (l.2.2.toNat+k)) (l.2.1.length - l.2.2.toNat)∧rsum (fun k=>pcost l.1 l.2.1 (l.2.2.toNat+k)) (l.2.1.length - l.2.2.toNat)≤999999
  omega
theorem Zmx (u:Nat):Lib.decNat (Lib.decDigits u)=some u:=by
 have hd:=Zhh u;cases hl:Lib.decDigits u with
 | nil=>rw[Lib.decDigits] at hl;split at hl<;>simp at hl
 | cons b r=>rw[hl] at hd;simp only[Lib.decNat,List.isEmpty_cons,Bool.false_eq_true,if_false,hd]
theorem Zce {u:Nat} (h:1≤u):numT (-(u:Int))=45::Lib.decDigits u:=by unfold numT;exact Lib.itoa_neg u h
theorem ZlU {u:Nat} (h:1≤u):Lib.atoi (numT (-(u:Int)))=some (-(u:Int)):=by
 rw[Zce h];simp only[Lib.atoi,Zmx,BEq.rfl,if_true,Option.map_some]
theorem ZqW {u:Nat} (h:1≤u) (h1:u<1000000):atV (txt (numT (-(u:Int))))= -(u:Int)∧piB (txt (numT (-(u:Int))))=true:=by
 have e:atV (txt (numT (-(u:Int))))= -(u:Int):=by
  unfold atV;rw[show (txt (numT (-(u:Int)))).data.toList=numT (-(u:Int)) from rfl,ZlU h];rfl
 refine ⟨e, ?_⟩;have hl:=Zg9 u 5 (by omega);have hz:(txt (numT (-(u:Int)))).size=(Lib.decDigits u).length+1:=by
  show (numT (-(u:Int))).length=_;rw[Zce h];rfl
 simp only[piB,e,hz,inRg,show (txt (numT (-(u:Int)))).data.toList=numT (-(u:Int)) from rfl,ZlU h,Option.isSome_some,Xh,Xi,true_and,and_true];omega
theorem ZqX {u:Nat} (h:1≤u) (h1:u<1000000):rdV (txt (numT (-(u:Int))))= -(u:Int)∧rdB (txt (numT (-(u:Int))))=true:=by
 have hl:=Zg9 u 5 (by omega);have hpos:0<(Lib.decDigits u).length:=by rw[Lib.decDigits];split<;>simp
 have hm:=Zha u;have hdg:∀i,i<(Lib.decDigits u).length→dgB (txt (Lib.decDigits u)) i=true:=fun i hi=>by
  have:=hm _ (List.getElem_mem hi);simp only[dgB,Zek _ hi,Xh,Xi];exact this
 have hz:(txt (numT (-(u:Int)))).size=(Lib.decDigits u).length+1:=by
  show (numT (-(u:Int))).length=_;rw[Zce h];rfl
 have hc:chr (txt (numT (-(u:Int)))) 0=45:=by
  rw[Zce h,Zek _ (show 0<(45::Lib.decDigits u).length by simp)];rfl
 have hsg:sgB (txt (numT (-(u:Int))))=true:=by
  simp only[sgB,hz,hc,Xh,Xi,and_true];omega
 have hmag:magT (txt (numT (-(u:Int))))=txt (Lib.decDigits u):=by
  rw[magT,hsg,Xd];have:=ZnQ (txt (numT (-(u:Int)))) 1;rw[Zg,Zce h] at this;rw[Zce h];exact this
 have e:rdV (txt (numT (-(u:Int))))= -(u:Int):=by
  unfold rdV;rw[hmag,hz,Xc (show (txt (Lib.decDigits u)).size<(Lib.decDigits u).length+1 from Nat.lt_succ_self _),Xd];show 0 - dv (txt (Lib.decDigits u)) (Lib.decDigits u).length=_;rw[Zpy];omega
 refine ⟨e, ?_⟩;have hsz:(txt (Lib.decDigits u)).size=(Lib.decDigits u).length:=rfl;simp only[rdB,hmag,e,hsz,Xh,Xi,and_true];exact ⟨⟨by omega,by omega⟩,Zbz.2 hdg⟩
theorem Zpz {k:Int} (h: -999999≤k∧k≤999999):(atV (txt (numT k))=k∧piB (txt (numT k))=true)∧(rdV (txt (numT k))=k∧rdB (txt (numT k))=true):=by
 rcases Int.lt_or_le k 0 with h0 | h0
 ·obtain ⟨u,rfl⟩:∃u:Nat,k= -(u:Int):=⟨k.natAbs,by omega⟩
  exact ⟨ZqW (by omega) (by omega),ZqX (by omega) (by omega)⟩
 ·exact ⟨ZqU h0 (by omega),ZqV h0 (by omega)⟩
theorem Zqk {s:Xo} (h:piB s=true):s=txt (numT (atV s))∧ -999999≤atV s∧atV s≤999999:=by
 simp only[piB,inRg,Xh,Xi] at h;exact ⟨h.2.2.2.symm,h.2.2.1.1,h.2.2.1.2⟩
theorem Zql {s:Xo} (h:rdB s=true):s=txt (numT (rdV s))∧ -999999≤rdV s∧rdV s≤999999:=by
 simp only[rdB,Xh,Xi] at h;obtain ⟨⟨h1,h2⟩,h3,h4⟩:=h;have hb:=Zpd (s:=magT s) (magT s).size (Zbz.1 h3);have hp:=pow6 h2;refine ⟨h4.symm, ?_⟩;unfold rdV;cases decide ((magT s).size<s.size)<;>simp only[Xd,Xe]<;>omega
theorem Zoe (s:Xo):piB s=rdB s∧(piB s=true→atV s=rdV s):=by
 cases hp:piB s with
 | true=>
  obtain ⟨e,b⟩:=Zqk hp;obtain ⟨_,r1,r2⟩:=Zpz b;rw[←e] at r1 r2;exact ⟨r2.symm,fun _=>r1.symm⟩
 | false=>
  cases hr:rdB s with
  | false=>exact ⟨rfl,fun h=>by cases h⟩
  | true=>
   obtain ⟨e,b⟩:=Zql hr;obtain ⟨⟨_,p2⟩,_⟩:=Zpz b;rw[←e,hp] at p2;cases p2
abbrev NumL (l:List Int):Prop:=l.length≤100∧∀i,i<l.length→0≤gd l i 0∧gd l i 0≤999999
abbrev NumN (n:Int):Prop:= -999999≤n∧n≤999999
theorem iNum {N:Nat} {n:Int} {ok:Bool} (h:ok=true→NumN n):Q65 N n ok=some ((bif ok then txt (numT n) else ⟨#[]⟩,ok),()):=by
 cases ok with
 | false=>exact Zhz N n
 | true=>exact Zhy (h rfl)
theorem Zpi {N:Nat} {l:List Int} {ok:Bool} (h:ok=true→NumL l) (hN:4194304≤N):Q64 N l ok=some ((bif ok then wordsOf l else ⟨#[]⟩,ok),()):=by
 cases ok with
 | false=>rfl
 | true=>exact Zka (h rfl).1 (h rfl).2 hN
theorem Zi1 (S:Nat→Bool) {n:Nat} (h:n≤100):NumL (pns S n):=
 ⟨by have:=Zia S n;omega,fun i hi=>by have:=Zpv hi;omega⟩
theorem Ze3 {l:Lg} (hb:ledB l=true):NumL l.2.1:=by
 have hl:=(ZQ.1 hb).1;have h8:=hl.c.n;have hn:=hl.n;exact ⟨by omega,fun i hi=>by have:=hl.b i hi;omega⟩
theorem Zof {l:Lg} (hb:ledB l=true):NumL (leftL l):=by
 have hl:=(ZQ.1 hb).1;have h8:=hl.c.n;have hn:=hl.n;have hw:=hl.now;have h0:=ZeM hb;refine ⟨by rw[Zcz hb];omega,fun i hi=> ?_⟩
 rw[Zcz hb] at hi;have h1:=Zdm hl (a:=l.2.2.toNat) (by omega) h0 i (by omega);have h2:=hl.c.b0 (l.2.2.toNat+i) (by omega);have h3:=Zcj (x:=leftSt l l.2.2.toNat i) (y:=gd l.1.1 (l.2.2.toNat+i) 0);have e:gd (leftL l) i 0=gd l.1.1 (l.2.2.toNat+i) 0 - imin (leftSt l l.2.2.toNat i) (gd l.1.1 (l.2.2.toNat+i) 0):=by
  simp only[leftL,leftTo];rw[ZqP _ (by omega)]
 rw[e];omega
theorem ZdI {l:Lg} (hb:ledB l=true):NumL (shortsL l):=by
 have hl:=(ZQ.1 hb).1;have h8:=hl.c.n;have hn:=hl.n;have hw:=hl.now;have hlen:=Zb9 l l.2.2.toNat (l.2.1.length - l.2.2.toNat);refine ⟨by show (shortsTo l _ _).length≤100;omega,fun i hi=> ?_⟩
 have hm:gd (shortsL l) i 0∈shortsL l:=by
  rw[gd,List.getD_eq_getElem?_getD,List.getElem?_eq_getElem hi];exact List.getElem_mem hi
 simp only[shortsL,shortsTo,List.mem_map,List.mem_filter,List.mem_range] at hm;obtain ⟨k,⟨h1,_⟩,h2⟩:=hm;show 0≤gd (shortsL l) i 0∧gd (shortsL l) i 0≤999999;simp only[shortsL,shortsTo] at h2 ⊢;rw[←h2];omega
theorem Zqm {c:Cs} (hc:CaseP c):NumL (fwL c c.1.length):=by
 have h8:=hc.n;refine ⟨by rw[Zcl];omega,fun i hi=> ?_⟩
 rw[Zcl] at hi;rw[Zb0 c c.1.length (show i≤c.1.length by omega)];have:=ZiO hc i i (Xl _) (by omega);omega
theorem Zqn {c:Cs} (hc:CaseP c):NumL (prL c c.1.length):=by
 have h8:=hc.n;refine ⟨by rw[Zcm];omega,fun i hi=> ?_⟩
 rw[Zcm] at hi;rw[ZlA c c.1.length hi];have:=Zpx hc hi;omega
theorem Zpj {N:Nat} {c:Cs} (hs:SmC c) (rule:Int) (hN:4194304≤N):∃z:Int×Bool,Q46 N c rule=some (z,())∧Q105 N c rule=some (z,())∧(z.2=true→NumN z.1):=by
 simp only[Q46,Q105,ZK hs hN,ZL hs hN,Xa,Zt,Zz,ZI];cases h:caseB c with
 | false=>exact ⟨(0,false),rfl,rfl,fun h=>by cases h⟩
 | true=>
  have hc:=ZB.1 h;obtain ⟨T,t1,t2,t3⟩:=ZjR hc rule hN;have hl:(bwL c).length=c.1.length+1:=Zaw c _;cases hr:inRg 1 3 rule with
  | false=>exact ⟨(0,false),rfl,rfl,fun h=>by cases h⟩
  | true=>
   have h1:=ZnA (Zec hc T);have h2:=Zly hc;have h3:=Zo1 hc;have h4:bw c 0=gd (bwL c) 0 0:=rfl;refine ⟨(isub .i64 (costOf c (planS T c.1)) (gd (bwL c) 0 0),true), ?_, ?_,fun _=> ?_⟩
   ·simp only[Xd,t2,Xa,Zag hc T hN,t1,Zcx (Zec hc T) hN,Zbr hc hN,Zf (ZaL (i:=0) (n:=(bwL c).length) (by omega) (by omega))]
   ·simp only[Xd,t3,Xa,Zbn hc T hN,Zch (Zec hc T) hN,Zca hc hN,Zf (ZaL (i:=0) (n:=(bwL c).length) (by omega) (by omega))]
   ·show NumN (isub .i64 (costOf c (planS T c.1)) (gd (bwL c) 0 0))
    rw[Zv (by omega) (by omega)];show -999999≤_∧_≤999999;omega
theorem Zmy {N:Nat} {c:Cs} (hs:SmC c) (rule:Int) (hN:4194304≤N):∃z:List Int×Bool,Q47 N c rule=some (z,())∧Q106 N c rule=some (z,())∧NumL z.1:=by
 simp only[Q47,Q106,ZK hs hN,ZL hs hN,Xa,Zt,Zz,ZI];cases h:caseB c with
 | false=>exact ⟨([],false),rfl,rfl,by simp,fun i hi=>by simp at hi⟩
 | true=>
  have hc:=ZB.1 h;have h8:=hc.n;obtain ⟨T,t1,t2,t3⟩:=ZjR hc rule hN;cases hr:inRg 1 3 rule with
  | false=>exact ⟨([],false),rfl,rfl,by simp,fun i hi=>by simp at hi⟩
  | true=>exact ⟨(pns T c.1.length,true),by simp only[Xd,t2,Xa],by simp only[Xd,t3,Xa],Zi1 T (by omega)⟩
theorem ZkT {l:Lg} (hb:ledB l=true):NumN (rsum (fun k=>pcost l.1 l.2.1 (0+k)) (l.2.2.toNat - 0)):=by
 have hl:=(ZQ.1 hb).1;have hn:=hl.n;have h8:=hl.c.n;have hw:=hl.now;have h:=Zbv (f:=fun k=>pcost l.1 l.2.1 (0+k)) (lo:= -20000) (hi:=20000) (n:=l.2.2.toNat - 0) (fun i hi=>Zgd hl (by omega))
 show -999999≤rsum _ _∧rsum _ _≤999999;omega
theorem Zqo {n:Int}:numT n≠[]:=by
 intro h;rcases Int.lt_or_le n 0 with h0 | h0
 ·obtain ⟨u,rfl⟩:∃u:Nat,n= -(u:Int):=⟨n.natAbs,by omega⟩
  rw[Zce (by omega)] at h;cases h
 ·obtain ⟨u,rfl⟩:∃u:Nat,n=(u:Int):=⟨n.toNat,by omega⟩
  rw[ZcU,Lib.decDigits] at h;split at h<;>simp at h
theorem Zog (f:Nat→List UInt8) (hf:∀i,f i≠[]) {n:Nat} (h:0<n):wordsT 32 f n≠[]:=by
 intro he;rcases Nat.lt_or_ge 1 n with h1 | h1
 ·obtain ⟨m,rfl⟩:∃m,n=m+1:=⟨n - 1,by omega⟩
  rw[wordsT_succ 32 f (by omega)] at he;simp at he
 ·obtain rfl:n=1:=by omega
  rw[ZbP] at he;exact hf 0 he
theorem Zgp {N:Nat} {l:List Int} (h:NumL l) (hN:4194304≤N):Q124 N l=some (wordsOf l,()):=by
 obtain ⟨hl,hb⟩:=h;simp only[Q124,show (⟨#[]⟩:Xo)=txt [] from rfl];refine Q124_L1_run N (fun _=>l) (fun t=>txt (wordsT 32 (fun i=>numT (gd l i 0)) t)) (fun t=>(t:Int)) l.length (fun t ht kx=> ?_) (fun kx=> ?_) N (by omega)
 ·have b:=hb t ht
  have h1:=ZJ (k:=gd l t 0) (by omega) (by omega);have lw:=Zbg 32 (fun i=>numT (gd l i 0)) (k:=6) t (fun i hi=>ZJ (hb i (by omega)).1 (by have:=(hb i (by omega)).2;omega))
  have lw2:t*(6+1)≤100*7:=Nat.mul_le_mul (by omega) (Xl _);have sf:∀x y:List UInt8,x.length≤2000→y.length≤2000→sfit (txt x) (txt y)=true:=fun x y hx hy=>Zy (by rw[Zd,Zd,Zg,Zg];omega)
  simp only[Q124_B1,ilt_eq,len_eq,Xk,ht,Xf,Xd,Zb ht,chk_true',Xj,Zu (n:=gd l t 0) (by omega) (by omega) hN,Xa,show (⟨#[32]⟩:Xo)=txt [32] from rfl,Zau,Zc (show t<4611686018427387904 by omega)];by_cases h0:t=0
  ·subst h0
   simp only[show ¬(0:Int)<((0:Nat):Int) by omega,Xg,Xe];rw[sf _ _ (by simp [ZaQ]) (by omega),chk_true',ZaQ,Nat.zero_add,ZbP];rfl
  ·simp only[show (0:Int)<(t:Int) by omega,Xf,Xd]
   rw[sf _ _ (by omega) (by simp),chk_true',sf _ _ (by simp;omega) (by omega),chk_true',wordsT_succ 32 _ (show 0<t by omega)]
 ·simp only[Q124_B1,Q124_K1,ilt_eq,len_eq,Xn,Xg,Xe,Zb1,wordsOf]
  by_cases h:l.length=0
  ·rw[if_pos h,h,ZaQ];rfl
  ·rw[if_neg h,Xb (fun he=>Zog (fun i=>numT (gd l i 0)) (fun i=>Zqo) (show 0<l.length by omega) (by have:=congrArg bts he;exact this))];rfl
theorem sSay {N:Nat} {n:Int} {ok:Bool} (h:ok=true→NumN n) (hN:4194304≤N):Q131 N n ok=some (bif ok then txt (numT n) else ⟨#[63]⟩,()):=by
 cases ok with
 | false=>rfl
 | true=>
  have b:=h rfl;simp only[Q131,Bool.not_true,Xe,Xd,Zu (n:=n) (by omega) (by omega) hN,Xa]
theorem Zrb {N:Nat} {l:List Int} {ok:Bool} (h:ok=true→NumL l) (hN:4194304≤N):Q121 N l ok=some (bif ok then wordsOf l else ⟨#[63]⟩,()):=by
 cases ok with
 | false=>rfl
 | true=>simp only[Q121,Bool.not_true,Xe,Xd,Zgp (h rfl) hN,Xa]
def Same (x:Option ((Xo×Bool)×Unit)) (y:Option (Xo×Unit)):Prop:=∃rep ok,x=some ((rep,ok),())∧y=some (bif ok then rep else ⟨#[63]⟩,())∧rep.size<100000
theorem Zgq {N:Nat} {n:Int} {ok:Bool} (h:ok=true→NumN n) (hN:4194304≤N):Same ((Q65 N n ok).bind fun r=>some ((r.1.1,r.1.2),())) ((Q131 N n ok).bind fun r=>some (r.1,())):=by
 rw[iNum h,sSay h hN];cases ok with
 | false=>exact ⟨⟨#[]⟩,false,rfl,rfl,by decide⟩
 | true=>exact ⟨_,_,rfl,rfl,Zkb (h rfl)⟩
theorem Zi2 {N:Nat} {n:Int} (h:NumN n) (hN:4194304≤N):Same ((Q65 N n true).bind fun r=>some ((r.1.1,r.1.2),())) ((Q140 N n).bind fun r=>some (r.1,())):=by
 have b:=h;rw[iNum fun _=>h,Zu (n:=n) (by omega) (by omega) hN];exact ⟨_,_,rfl,rfl,Zkb h⟩
theorem Zdr {N:Nat} {l:List Int} {ok:Bool} (h:ok=true→NumL l) (hN:4194304≤N):Same ((Q64 N l ok).bind fun r=>some ((r.1.1,r.1.2),())) ((Q121 N l ok).bind fun r=>some (r.1,())):=by
 rw[Zpi h hN,Zrb h hN];cases ok with
 | false=>exact ⟨⟨#[]⟩,false,rfl,rfl,by decide⟩
 | true=>exact ⟨_,_,rfl,rfl,ZfM (h rfl).1 (h rfl).2⟩
theorem Zhi {N:Nat} {l:List Int} (h:NumL l) (hN:4194304≤N):Same ((Q64 N l true).bind fun r=>some ((r.1.1,r.1.2),())) ((Q124 N l).bind fun r=>some (r.1,())):=by
 rw[Zpi (fun _=>h) hN,Zgp h hN];exact ⟨_,_,rfl,rfl,ZfM h.1 h.2⟩
theorem Zoh {N:Nat} {l:Lg} (hs:SmL l) (hb:ledB l=true) (w:Xo) (hN:4194304≤N):Same (Q55_K1 N w [] l) (Q134 N l w):=by
 have hl:=(ZQ.1 hb).1;have hc:=hl.c;have hn:=hl.n;have h8:=hc.n;have hw:=hl.now;have hcb:=ZB.2 hc;have eS:Q133 N l l.2.2=some (stockAt l.2.1 l.1.1 l.2.2.toNat,()):=by
  have:=ZU hl (t:=l.2.2.toNat) (by omega) hN
  rwa [show ((l.2.2.toNat:Nat):Int)=l.2.2 by omega] at this
 have eC:Q112 N l 0 l.2.2=some (rsum (fun k=>pcost l.1 l.2.1 (0+k)) (l.2.2.toNat - 0),()):=by
  have:=Zdk hl (a:=0) (b:=l.2.2.toNat) (by omega) hN
  rwa [show ((l.2.2.toNat:Nat):Int)=l.2.2 by omega] at this
 have bS:=ZbN hl (t:=l.2.2.toNat) (by omega);simp only[Q55_K1,Q134,ilt_eq,len_eq,List.length_nil,show ¬(0:Int)<((0:Nat):Int) by omega,Xg,Xe];cases Go.Rx.seq w ⟨#[110,111,119]⟩ with
 | true=>exact Zi2 ⟨by omega,by omega⟩ hN
 | false=>
 cases Go.Rx.seq w ⟨#[115,116,111,99,107]⟩ with
 | true=>
  simp only[Xd,Xe,ZcZ hs hN,hb,eS,Xa];exact Zi2 ⟨by omega,by omega⟩ hN
 | false=>
 cases Go.Rx.seq w ⟨#[99,111,115,116]⟩ with
 | true=>
  simp only[Xd,Xe,ZgP hs hN,hb,eC,Xa];exact Zi2 (ZkT hb) hN
 | false=>
 cases Go.Rx.seq w ⟨#[97,104,101,97,100]⟩ with
 | true=>
  simp only[Xd,Xe,Zfn hs hN,Zfm hs hN,Xa];exact Zgq (fun _=>Zph hb) hN
 | false=>
 cases Go.Rx.seq w ⟨#[115,104,111,114,116]⟩ with
 | true=>
  simp only[Xd,Xe,ZbB hs hN,shortOf,hb,Zbw hl hN,Xa];exact Zhi (ZdI hb) hN
 | false=>
 cases Go.Rx.seq w ⟨#[108,101,102,116]⟩ with
 | true=>
  simp only[Xd,Xe,Zfp hs hN,needsOf,hb,Zdn hb hN,Xa];exact Zhi (Zof hb) hN
 | false=>
 cases Go.Rx.seq w ⟨#[112,108,97,110]⟩ with
 | true=>exact Zhi (Ze3 hb) hN
 | false=>
 cases Go.Rx.seq w ⟨#[99,97,115,101]⟩ with
 | true=>
  simp only[Xd,Xe,Zf1 (Zby hc) hN,ctxP,hcb,Zhw hc hN,Xa];exact ⟨_,_,rfl,rfl,by have:=Zob hc;show (textC l.1).length<100000;omega⟩
 | false=>
 cases Go.Rx.seq w ⟨#[98,101,115,116]⟩ with
 | true=>
  have b1:=Zly hc;simp only[Xd,Xe,ZfT (Zby hc) hN,ZfU (Zby hc) hN,bcOf,hcb,Xa];exact Zgq (fun _=>⟨by omega,by omega⟩) hN
 | false=>
 cases Go.Rx.seq w ⟨#[116,97,98,108,101]⟩ with
 | true=>
  simp only[Xd,Xe,ZdL (Zby hc) hN,ZdM (Zby hc) hN,fwP,hcb,Xa];exact Zdr (fun _=>Zqm hc) hN
 | false=>
 cases Go.Rx.seq w ⟨#[116,117,114,110,115]⟩ with
 | true=>
  simp only[Xd,Xe,Zc3 (Zby hc) hN,Zc4 (Zby hc) hN,turnP,hcb,Xa];exact Zdr (fun _=>Zi1 _ (by omega)) hN
 | false=>
 cases Go.Rx.seq w ⟨#[104,111,114,105,122,111,110,115]⟩ with
 | true=>
  simp only[Xd,Xe,ZeP (Zby hc) hN,ZeQ (Zby hc) hN,horP,hcb,Xa];exact Zdr (fun _=>Zi1 _ (by omega)) hN
 | false=>
 cases Go.Rx.seq w ⟨#[112,114,105,99,101,115]⟩ with
 | true=>
  simp only[Xd,Xe,ZeR (Zby hc) hN,ZeS (Zby hc) hN,priceP,hcb,Xa];exact Zdr (fun _=>Zqn hc) hN
 | false=>exact ⟨⟨#[]⟩,false,rfl,rfl,by decide⟩
theorem Zpk {N:Nat} {l:Lg} (hb:ledB l=true) (w:Xo) (k:Int) (hN:4194304≤N):Same (Q55 N l w [k]) (Q125 N l w k):=by
 have hl:=(ZQ.1 hb).1;have hc:=hl.c;have hcb:=ZB.2 hc;have sc:=Zby hc;have g:gd [k] 0 0=k:=rfl;simp only[Q55,Q125,ieq_eq,len_eq,List.length_singleton,show ((1:Nat):Int)=1 by omega,Xf,Xd,show inB 0 1=true from rfl,chk_true',g];cases Go.Rx.seq w ⟨#[114,117,108,101]⟩ with
 | true=>
  obtain ⟨z,z1,z2,z3⟩:=Zmy sc k hN;simp only[Xd,z1,z2,Xa];exact Zdr (fun _=>z3) hN
 | false=>
 cases Go.Rx.seq w ⟨#[103,97,112]⟩ with
 | true=>
  obtain ⟨z,z1,z2,z3⟩:=Zpj sc k hN;simp only[Xd,Xe,z1,z2,Xa];exact Zgq z3 hN
 | false=>
 cases Go.Rx.seq w ⟨#[102,114,101,115,104]⟩ with
 | true=>
  simp only[Xd,Xe,Q117,Zfx sc k hN,Zfy sc k hN,Xa];obtain ⟨rep,ok,h1,h2,h3⟩:=Zgq (N:=N) (n:=(bfOf l.1 k).2.1) (ok:=(bfOf l.1 k).2.2) (fun h=>by
   unfold bfOf at h ⊢;rw[hcb] at h ⊢;cases hr:inRg 1 8 k with
   | false=>rw[hr] at h;cases h
   | true=>
    have b2:=ZqT hc (L:=k.toNat) (ZiY hr).2.1;show -999999≤fbV l.1 k.toNat∧fbV l.1 k.toNat≤999999;omega) hN
  exact ⟨rep,ok,h1,by rw[h2];rfl,h3⟩
 | false=>
  refine ⟨⟨#[]⟩,false, ?_,rfl,by decide⟩;simp only[Xe,Q55_K1,ilt_eq,len_eq,List.length_singleton,show (0:Int)<((1:Nat):Int) by omega,Xf,Xd]
theorem Zmz {N:Nat} {l:Lg} (w:Xo) {ns:List Int} (h:2≤ns.length):Q55 N l w ns=some ((⟨#[]⟩,false),()):=by
 simp only[Q55,Q55_K1,ieq_eq,ilt_eq,len_eq,Xb (show ¬(ns.length:Int)=1 by omega),Xc (show (0:Int)<(ns.length:Int) by omega),Xe,Xd]
theorem ZmA {N:Nat} {l:Lg} (w:Xo):Q55 N l w []=Q55_K1 N w [] l:=by
 simp only[Q55,ieq_eq,len_eq,List.length_nil,show ¬((0:Nat):Int)=1 by omega,Xg,Xe]
def RepP (r:Xo):Prop:=r.size≤200∧∀b∈bts r,b.toNat=32∨(45≤b.toNat∧b.toNat≤57)∨(97≤b.toNat∧b.toNat≤122)
theorem ZlV {n:Int}:∀b∈numT n,b.toNat=32∨(45≤b.toNat∧b.toNat≤57)∨(97≤b.toNat∧b.toNat≤122):=by
 intro b hm;rcases Int.lt_or_le n 0 with h0 | h0
 ·obtain ⟨u,rfl⟩:∃u:Nat,n= -(u:Int):=⟨n.natAbs,by omega⟩
  rw[Zce (by omega)] at hm;rcases List.mem_cons.1 hm with rfl | hm
  ·exact .inr (.inl ⟨by decide,by decide⟩)
  ·have:=Zha u b hm;omega
 ·have:=ZcW h0 b hm;omega
theorem Zig (f:Nat→List UInt8) (p:UInt8→Prop) (hp:p 32) (hf:∀i,∀b∈f i,p b):∀n,∀b∈wordsT 32 f n,p b
 | 0,b,h=>by rw[ZaQ] at h;cases h
 | n+1,b,h=>by
  by_cases hn:n=0
  ·subst hn;rw[ZbP] at h;exact hf 0 b h
  ·rw[wordsT_succ 32 f (by omega)] at h
   simp only[List.mem_append,List.mem_singleton] at h;rcases h with (h | h) | h
   ·exact Zig f p hp hf n b h
   ·rw[h];exact hp
   ·exact hf n b h
theorem Zoi {n:Int} (h:NumN n):RepP (txt (numT n)):=
 ⟨by have:=ZdH (n:=n) (by omega) (by omega);show (numT n).length≤200;omega,ZlV⟩
theorem Zkc {l:List Int} (h:NumL l) (h9:l.length≤20):RepP (wordsOf l):=by
 unfold wordsOf;by_cases h0:l.length=0
 ·rw[if_pos h0]
  exact ⟨by decide,fun b hb=>by
   have:b∈([110,111,110,101]:List UInt8):=hb;simp only[List.mem_cons,List.not_mem_nil,or_false] at this;rcases this with rfl | rfl | rfl | rfl<;>exact .inr (.inr ⟨by decide,by decide⟩)⟩
 ·rw[if_neg h0]
  refine ⟨?_,Zig _ (fun b=>b.toNat=32∨(45≤b.toNat∧b.toNat≤57)∨(97≤b.toNat∧b.toNat≤122)) (.inl rfl) (fun i=>ZlV) _⟩;have h1:=Zbg 32 (fun i=>numT (gd l i 0)) (k:=6) l.length (fun i hi=>ZJ (h.2 i hi).1 (by have:=(h.2 i hi).2;omega))
  have h2:l.length*(6+1)≤20*7:=Nat.mul_le_mul h9 (Xl _);show (wordsT 32 (fun i=>numT (gd l i 0)) l.length).length≤200
  omega
noncomputable def actTail (N:Nat) (l:Lg) (a:Ac):Option ((Lg×Xo)×Unit):=
 (Q2 N l a).bind fun r3=>
  bif r3.1.2 then
   (Q53 N r3.1.1 a.1).bind fun r4=>
   bif r4.1.2 then some ((r3.1.1,r4.1.1),()) else some ((l,(⟨#[63]⟩:Xo)),())
  else some ((l,(⟨#[63]⟩:Xo)),())
def SameL (l:Lg) (x y:Option ((Lg×Xo)×Unit)):Prop:=∃l' r,x=some ((l',r),())∧y=some ((l',r),())∧ledB l'=true∧SmL l'∧r.size<100000∧(l'=l∨RepP r)
theorem Zpl {N:Nat} {l:Lg} (hs:SmL l) (hb:ledB l=true) (a:Ac) (hN:4194304≤N):SameL l (actTail N l a) (Q115 N l a):=by
 simp only[actTail,Q115,Zfs hs a hN,ZeT hb a hN,Xa];cases h2:(actP l a).2 with
 | false=>exact ⟨l,⟨#[63]⟩,rfl,rfl,hb,hs,by decide, .inl rfl⟩
 | true=>
  have hb':=ZlF h2;have hs':=ZnI (l:=l) a;generalize (actP l a).1=m at hb' hs' ⊢;have hl:=(ZQ.1 hb').1;have hn:=hl.n;have h8:=hl.c.n;have hw:=hl.now;have eS:Q133 N m m.2.2=some (stockAt m.2.1 m.1.1 m.2.2.toNat,()):=by
   have:=ZU hl (t:=m.2.2.toNat) (by omega) hN
   rwa [show ((m.2.2.toNat:Nat):Int)=m.2.2 by omega] at this
  have bS:=ZbN hl (t:=m.2.2.toNat) (by omega);have hsh:(shortsL m).length≤20:=by
   have:=Zb9 m m.2.2.toNat (m.2.1.length - m.2.2.toNat);show (shortsTo m _ _).length≤20;omega
  have fin:∀r,RepP r→SameL l (some ((m,r),())) (some ((m,r),())):=fun r hr=>⟨m,r,rfl,rfl,hb',hs',by have:=hr.1;omega, .inr hr⟩
  simp only[Bool.not_true,Xe,Xd,Q53,ieq_eq,len_eq];cases decide (a.1=1) with
  | true=>
   simp only[Xd,iNum (N:=N) (n:=(m.2.1.length:Int)) (ok:=true) (fun _=>⟨by omega,by omega⟩),Zu (n:=(m.2.1.length:Int)) (by omega) (by omega) hN,Xa];exact fin _ (Zoi ⟨by omega,by omega⟩)
  | false=>
  cases decide (a.1=4) with
  | true=>
   simp only[Xd,Xe,ZcZ hs' hN,hb',eS,iNum (N:=N) (n:=stockAt m.2.1 m.1.1 m.2.2.toNat) (ok:=true) (fun _=>⟨by omega,by omega⟩),Zu (n:=stockAt m.2.1 m.1.1 m.2.2.toNat) (by omega) (by omega) hN,Xa];exact fin _ (Zoi ⟨by omega,by omega⟩)
  | false=>
  cases decide (a.1=5) with
  | true=>
   simp only[Xd,Xe,Zpi (N:=N) (l:=m.2.1) (ok:=true) (fun _=>Ze3 hb') hN,Zgp (Ze3 hb') hN,Xa];exact fin _ (Zkc (Ze3 hb') (by omega))
  | false=>
   simp only[Xd,Xe,ZbB hs' hN,shortOf,hb',Zbw hl hN,Xa];rw[show shortsTo m m.2.2.toNat (m.2.1.length - m.2.2.toNat)=shortsL m from rfl,Zpi (N:=N) (l:=shortsL m) (ok:=true) (fun _=>ZdI hb') hN,Zgp (ZdI hb') hN];exact fin _ (Zkc (ZdI hb') hsh)
theorem Zih (c:UInt8):∀(l a:List UInt8),(spl c a l).length=1→spl c a l=[a++l]
 | [],a,_=>by simp [spl]
 | b::l,a,h=>by
  rw[spl] at h ⊢;split at h
  ·rw[List.length_cons] at h
   have:=Zeh c l [];omega
  ·rename_i hb
   rw[if_neg hb,Zih c l _ h];simp
theorem ZpA (s:Xo):0<(wsOf 32 s).length:=by
 unfold wsOf;rw[List.length_map];exact Zeh 32 _ _
theorem Zoj {s:Xo} (h:(wsOf 32 s).length=1):wsOf 32 s=[s]:=by
 unfold wsOf at h ⊢;rw[List.length_map] at h;rw[Zih 32 _ _ h];rfl
def nsOf (ws:List Xo) (n:Nat):List Int:=(List.range n).map fun i=>atV (gd ws (i+1) ⟨#[]⟩)
def nsB (ws:List Xo):Bool:=(List.range (ws.length - 1)).all fun i=>piB (gd ws (i+1) ⟨#[]⟩)
theorem Zi3 (ws:List Xo) (n:Nat):(nsOf ws n).length=n:=by simp [nsOf]
abbrev noLg:Lg:=(([],([],([],[]))),([],0))
theorem ZkU {N:Nat} {l:Lg} {s:Xo} (hz:s.size≤1000) (hN:4194304≤N):Q60 N l s=bif nsB (wsOf 32 s) then Q60_K1 N (wsOf 32 s) l noLg (nsOf (wsOf 32 s) ((wsOf 32 s).length - 1)) else some ((l,⟨#[63]⟩),()):=by
 have hl:=Zi0 32 s;have hp:=ZpA s;simp only[Q60,show (⟨#[32]⟩:Xo)=txt [32] from rfl,ZlT (N:=N) (s:=s) (c:=32) (by omega),Xa];generalize wsOf 32 s=ws at hl hp ⊢;have ht:List.take ((len ws).toNat - 1) (List.drop 1 ws)=List.drop 1 ws:=by
  rw[len_eq,Xj];exact List.take_of_length_le (by rw[List.length_drop];omega)
 have hg:∀i,gd (List.drop 1 ws) i (⟨#[]⟩:Xo)=gd ws (i+1) ⟨#[]⟩:=fun i=>by simp only[gd,List.getD_eq_getElem?_getD,List.getElem?_drop,Nat.add_comm 1 i]
 rw[ht,len_eq,Xj,Zf (ZA (by omega) (by omega) (by omega))];have step:∀i,i<ws.length - 1→∀kx,Q60_B1 N kx ws (List.drop 1 ws) ((ws.length - 1:Nat):Int) (i:Nat) l noLg (nsOf ws i)=bif piB (gd ws (i+1) ⟨#[]⟩) then kx ws (List.drop 1 ws) ((ws.length - 1:Nat):Int) ((i+1:Nat):Int) l noLg (nsOf ws (i+1)) else some ((l,⟨#[63]⟩),()):=fun i hi kx=>by
  simp only[Q60_B1,ilt_eq,Xk,hi,Xf,Xd,Zb (show i<(List.drop 1 ws).length by rw[List.length_drop];omega),chk_true',Xj,hg,Zf3,Xa,Zt]
  cases piB (gd ws (i+1) ⟨#[]⟩) with
  | false=>rfl
  | true=>
   simp only[Xd];rw[Zf (Zn (by rw[Zi3];omega) (by omega)),Zc (show i<4611686018427387904 by omega),nsOf,nsOf,List.range_succ,List.map_append,List.map_cons,List.map_nil]
 rcases Zed (fun i=>piB (gd ws (i+1) ⟨#[]⟩)) (ws.length - 1) with ⟨h1,h2⟩ | ⟨h1,j,h2,h4,h5⟩
 ·rw[show nsB ws=true from h1]
  refine Q60_L1_run N (fun _=>ws) (fun _=>List.drop 1 ws) (fun _=>((ws.length - 1:Nat):Int)) (fun i=>(i:Int)) (fun _=>l) (fun _=>noLg) (fun i=>nsOf ws i) (ws.length - 1) (fun i hi kx=>by rw[step i hi,h2 i hi];rfl) (fun kx=> ?_) N (by omega)
  simp only[Q60_B1,ilt_eq,Xn,Xg,Xe,Xd]
 ·rw[show nsB ws=false from h1]
  exact Q60_L1_run N (fun _=>ws) (fun _=>List.drop 1 ws) (fun _=>((ws.length - 1:Nat):Int)) (fun i=>(i:Int)) (fun _=>l) (fun _=>noLg) (fun i=>nsOf ws i) j (fun i hi kx=>by rw[step i (by omega),h4 i hi];rfl) (fun kx=>by rw[step j h2,h5];rfl) N (by omega)
theorem ZmB {N:Nat} {ws:List Xo} (hl:ws.length≤2000) (hN:4194304≤N):Q129 N ws=some (bif nsB ws then (nsOf ws (ws.length - 1),true) else ([],false),()):=by
 simp only[Q129];have step:∀i,i<ws.length - 1→∀kx,Q129_B1 N kx ws ((i+1:Nat):Int) (nsOf ws i)=bif piB (gd ws (i+1) ⟨#[]⟩) then kx ws ((i+1+1:Nat):Int) (nsOf ws (i+1)) else some (([],false),()):=fun i hi kx=>by
  obtain ⟨e1,e2⟩:=Zoe (gd ws (i+1) ⟨#[]⟩);simp only[Q129_B1,ilt_eq,len_eq,Xk,show i+1<ws.length by omega,Xf,Xd,Zb (show i+1<ws.length by omega),chk_true',Xj,Zhx _ hN,Xa,Zt,←e1];cases hp:piB (gd ws (i+1) ⟨#[]⟩) with
  | false=>rfl
  | true=>
   simp only[Xd];rw[Zf (Zn (by rw[Zi3];omega) (by omega)),Zc (show i+1<4611686018427387904 by omega),←e2 hp,nsOf,nsOf,List.range_succ,List.map_append,List.map_cons,List.map_nil]
 rcases Zed (fun i=>piB (gd ws (i+1) ⟨#[]⟩)) (ws.length - 1) with ⟨h1,h2⟩ | ⟨h1,j,h2,h4,h5⟩
 ·rw[show nsB ws=true from h1]
  refine Q129_L1_run N (fun _=>ws) (fun i=>((i+1:Nat):Int)) (fun i=>nsOf ws i) (ws.length - 1) (fun i hi kx=>by rw[step i hi,h2 i hi];rfl) (fun kx=> ?_) N (by omega)
  simp only[Q129_B1,Q129_K1,ilt_eq,len_eq,Xk,show ¬ws.length - 1+1<ws.length by omega,Xg,Xe,Xd]
 ·rw[show nsB ws=false from h1]
  exact Q129_L1_run N (fun _=>ws) (fun i=>((i+1:Nat):Int)) (fun i=>nsOf ws i) j (fun i hi kx=>by rw[step i (by omega),h4 i hi];rfl) (fun kx=>by rw[step j h2,h5];rfl) N (by omega)
noncomputable def kTail (N:Nat) (l:Lg) (w:Xo) (ns:List Int):Option ((Lg×Xo)×Unit):=
 bif (actOfV w ns).2 then actTail N l (actOfV w ns).1 else (Q55 N l w ns).bind fun r5=>bif !r5.1.2 then some ((l,(⟨#[63]⟩:Xo)),()) else some ((l,r5.1.1),())
theorem Zok {N:Nat} {l:Lg} {ws:List Xo} {ns:List Int} (h:0<ws.length) (hn:ns.length≤1000):Q60_K1 N ws l noLg ns=kTail N l (gd ws 0 ⟨#[]⟩) ns:=by
 simp only[Q60_K1,impl_actOf,Xc (show ns.length≤1000000 by omega),chk_true',Zf (ZaL (i:=0) (n:=ws.length) (by omega) (by omega)),Xa,kTail,actTail]
theorem Zol {N:Nat} {l:Lg} {w:Xo} {ns:List Int} {y:Option (Xo×Unit)} (hs:SmL l) (hb:ledB l=true) (h:(actOfV w ns).2=false) (hy:Same (Q55 N l w ns) y):SameL l (kTail N l w ns) (y.bind fun r=>some ((l,r.1),())):=by
 obtain ⟨rep,ok,e1,e2,e3⟩:=hy;simp only[kTail,h,Xe,e1,e2,Xa];cases ok with
 | false=>exact ⟨l,_,rfl,rfl,hb,hs,by decide, .inl rfl⟩
 | true=>exact ⟨l,_,rfl,rfl,hb,hs,e3, .inl rfl⟩
theorem ZdJ {N:Nat} {l:Lg} {w:Xo} {ns:List Int} {a:Ac} (hs:SmL l) (hb:ledB l=true) (hN:4194304≤N) (h:actOfV w ns=(a,true)):SameL l (kTail N l w ns) (Q115 N l a):=by
 simp only[kTail,h,Xd];exact Zpl hs hb a hN
theorem Zel {l:Lg} {x y:Option ((Lg×Xo)×Unit)} (h:SameL l x y):SameL l x (y.bind fun r=>some ((r.1.1,r.1.2),())):=by
 obtain ⟨l',r,e1,e2,e3⟩:=h;exact ⟨l',r,e1,by rw[e2];rfl,e3⟩
theorem Zi4 {N:Nat} {l:Lg} {w:Xo} {ns:List Int} (hs:SmL l) (hb:ledB l=true) (h:(actOfV w ns).2=false) (h2:2≤ns.length):SameL l (kTail N l w ns) (some ((l,⟨#[63]⟩),())):=by
 simp only[kTail,h,Xe,Zmz w h2,Xa];exact ⟨l,_,rfl,rfl,hb,hs,by decide, .inl rfl⟩
theorem Zds (w:Xo):(w=⟨#[112,101,114,105,111,100]⟩∧Lib.idxOfS actWords w=0)∨(w=⟨#[110,101,101,100]⟩∧Lib.idxOfS actWords w=1)∨(w=⟨#[111,114,100,101,114]⟩∧Lib.idxOfS actWords w=2)∨(w=⟨#[115,116,101,112]⟩∧Lib.idxOfS actWords w=3)∨(w=⟨#[114,101,112,108,97,110]⟩∧Lib.idxOfS actWords w=4)∨(w=⟨#[99,108,101,97,114]⟩∧Lib.idxOfS actWords w=5)∨
  (Lib.idxOfS actWords w= -1∧w≠⟨#[112,101,114,105,111,100]⟩∧w≠⟨#[110,101,101,100]⟩∧w≠⟨#[111,114,100,101,114]⟩∧w≠⟨#[115,116,101,112]⟩∧w≠⟨#[114,101,112,108,97,110]⟩∧w≠⟨#[99,108,101,97,114]⟩):=by
 by_cases h0:w=⟨#[112,101,114,105,111,100]⟩
 ·subst h0;exact .inl ⟨rfl,by decide⟩
 by_cases h1:w=⟨#[110,101,101,100]⟩
 ·subst h1;exact .inr (.inl ⟨rfl,by decide⟩)
 by_cases h2:w=⟨#[111,114,100,101,114]⟩
 ·subst h2;exact .inr (.inr (.inl ⟨rfl,by decide⟩))
 by_cases h3:w=⟨#[115,116,101,112]⟩
 ·subst h3;exact .inr (.inr (.inr (.inl ⟨rfl,by decide⟩)))
 by_cases h4:w=⟨#[114,101,112,108,97,110]⟩
 ·subst h4;exact .inr (.inr (.inr (.inr (.inl ⟨rfl,by decide⟩))))
 by_cases h5:w=⟨#[99,108,101,97,114]⟩
 ·subst h5;exact .inr (.inr (.inr (.inr (.inr (.inl ⟨rfl,by decide⟩)))))
 refine .inr (.inr (.inr (.inr (.inr (.inr ⟨?_,h0,h1,h2,h3,h4,h5⟩)))));simp only[Lib.idxOfS,actWords,Lib.idxFromS];rw[if_neg (Ne.symm h0),if_neg (Ne.symm h1),if_neg (Ne.symm h2),if_neg (Ne.symm h3),if_neg (Ne.symm h4),if_neg (Ne.symm h5)]
theorem Zbi {w:Xo} {ns:List Int} (h:Lib.idxOfS actWords w= -1∨ns.length≠actAr (Lib.idxOfS actWords w)):(actOfV w ns).2=false:=by
 unfold actOfV;rw[if_pos h]
theorem ZdK {w:Xo} {ns:List Int} {k:Int} (hk:Lib.idxOfS actWords w=k) (h0:k≠ -1) (h:ns.length=actAr k):actOfV w ns=((k+1,ns.getD 0 0,ns.getD 1 0,ns.getD 2 0,ns.getD 3 0),true):=by
 unfold actOfV;rw[hk,if_neg (by rintro (h1 | h1)<;>contradiction)]
theorem ZaT {x y:Xo} (h:x≠y):Go.Rx.seq x y=false:=by rw[Zb1];exact Xb h
theorem ZfN (x:Xo):Go.Rx.seq x x=true:=by rw[Zb1];exact Xc rfl
theorem Zrc {N:Nat} {l:Lg} (hs:SmL l) (hb:ledB l=true) (w:Xo) (hN:4194304≤N):SameL l (kTail N l w []) (Q136 N l w):=by
 have no:(actOfV w []).2=false→SameL l (kTail N l w []) ((Q134 N l w).bind fun r3=>some ((l,r3.1),())):=fun h=>Zol hs hb h (by rw[ZmA];exact Zoh hs hb w hN)
 unfold Q136;rcases Zds w with ⟨h,hi⟩ | ⟨h,hi⟩ | ⟨h,hi⟩ | ⟨h,hi⟩ | ⟨h,hi⟩ | ⟨h,hi⟩ | ⟨hi,h0,h1,h2,h3,h4,h5⟩
 ·have n:=Zbi (w:=w) (ns:=[]) (.inr (by rw[hi];decide))
  rw[ZaT (x:=w) (y:=⟨#[115,116,101,112]⟩) (by rw[h];decide),ZaT (x:=w) (y:=⟨#[114,101,112,108,97,110]⟩) (by rw[h];decide),ZaT (x:=w) (y:=⟨#[99,108,101,97,114]⟩) (by rw[h];decide)]
  exact no n
 ·have n:=Zbi (w:=w) (ns:=[]) (.inr (by rw[hi];decide))
  rw[ZaT (x:=w) (y:=⟨#[115,116,101,112]⟩) (by rw[h];decide),ZaT (x:=w) (y:=⟨#[114,101,112,108,97,110]⟩) (by rw[h];decide),ZaT (x:=w) (y:=⟨#[99,108,101,97,114]⟩) (by rw[h];decide)]
  exact no n
 ·have n:=Zbi (w:=w) (ns:=[]) (.inr (by rw[hi];decide))
  rw[ZaT (x:=w) (y:=⟨#[115,116,101,112]⟩) (by rw[h];decide),ZaT (x:=w) (y:=⟨#[114,101,112,108,97,110]⟩) (by rw[h];decide),ZaT (x:=w) (y:=⟨#[99,108,101,97,114]⟩) (by rw[h];decide)]
  exact no n
 ·rw[show Go.Rx.seq w ⟨#[115,116,101,112]⟩=true by rw[h];exact ZfN _]
  exact Zel (ZdJ hs hb hN (ZdK (ns:=[]) hi (by decide) rfl))
 ·rw[ZaT (x:=w) (y:=⟨#[115,116,101,112]⟩) (by rw[h];decide),show Go.Rx.seq w ⟨#[114,101,112,108,97,110]⟩=true by rw[h];exact ZfN _]
  exact Zel (ZdJ hs hb hN (ZdK (ns:=[]) hi (by decide) rfl))
 ·rw[ZaT (x:=w) (y:=⟨#[115,116,101,112]⟩) (by rw[h];decide),ZaT (x:=w) (y:=⟨#[114,101,112,108,97,110]⟩) (by rw[h];decide),show Go.Rx.seq w ⟨#[99,108,101,97,114]⟩=true by rw[h];exact ZfN _]
  exact Zel (ZdJ hs hb hN (ZdK (ns:=[]) hi (by decide) rfl))
 ·have n:=Zbi (w:=w) (ns:=[]) (.inl hi)
  rw[ZaT h3,ZaT h4,ZaT h5];exact no n
theorem Zrd {N:Nat} {l:Lg} (hs:SmL l) (hb:ledB l=true) (w:Xo) (k:Int) (hN:4194304≤N):SameL l (kTail N l w [k]) ((Q125 N l w k).bind fun r3=>some ((l,r3.1),())):=by
 refine Zol hs hb ?_ (Zpk hb w k hN);refine Zbi ?_;rcases Zds w with ⟨h,hi⟩ | ⟨h,hi⟩ | ⟨h,hi⟩ | ⟨h,hi⟩ | ⟨h,hi⟩ | ⟨h,hi⟩ | ⟨hi,_⟩<;>rw[hi]
 case inr.inr.inr.inr.inr.inr=>exact .inl rfl
 all_goals exact .inr (by rw[List.length_singleton];decide)
theorem Zre {N:Nat} {l:Lg} (hs:SmL l) (hb:ledB l=true) (w:Xo) (a b:Int) (hN:4194304≤N):SameL l (kTail N l w [a,b]) (bif Go.Rx.seq w ⟨#[110,101,101,100]⟩ then (Q115 N l (2,(a,(b,(0,0))))).bind fun r4=>some ((r4.1.1,r4.1.2),()) else bif Go.Rx.seq w ⟨#[111,114,100,101,114]⟩ then (Q115 N l (3,(a,(b,(0,0))))).bind fun r5=>some ((r5.1.1,r5.1.2),()) else some ((l,⟨#[63]⟩),())):=by
 have no:(actOfV w [a,b]).2=false→SameL l (kTail N l w [a,b]) (some ((l,⟨#[63]⟩),())):=fun h=>Zi4 hs hb h (by simp)
 rcases Zds w with ⟨h,hi⟩ | ⟨h,hi⟩ | ⟨h,hi⟩ | ⟨h,hi⟩ | ⟨h,hi⟩ | ⟨h,hi⟩ | ⟨hi,h0,h1,h2,h3,h4,h5⟩
 ·rw[ZaT (x:=w) (y:=⟨#[110,101,101,100]⟩) (by rw[h];decide),ZaT (x:=w) (y:=⟨#[111,114,100,101,114]⟩) (by rw[h];decide)]
  exact no (Zbi (.inr (by rw[hi];simp [actAr])))
 ·rw[show Go.Rx.seq w ⟨#[110,101,101,100]⟩=true by rw[h];exact ZfN _]
  exact Zel (ZdJ hs hb hN (ZdK (ns:=[a,b]) hi (by decide) rfl))
 ·rw[ZaT (x:=w) (y:=⟨#[110,101,101,100]⟩) (by rw[h];decide),show Go.Rx.seq w ⟨#[111,114,100,101,114]⟩=true by rw[h];exact ZfN _]
  exact Zel (ZdJ hs hb hN (ZdK (ns:=[a,b]) hi (by decide) rfl))
 ·rw[ZaT (x:=w) (y:=⟨#[110,101,101,100]⟩) (by rw[h];decide),ZaT (x:=w) (y:=⟨#[111,114,100,101,114]⟩) (by rw[h];decide)]
  exact no (Zbi (.inr (by rw[hi];simp [actAr])))
 ·rw[ZaT (x:=w) (y:=⟨#[110,101,101,100]⟩) (by rw[h];decide),ZaT (x:=w) (y:=⟨#[111,114,100,101,114]⟩) (by rw[h];decide)]
  exact no (Zbi (.inr (by rw[hi];simp [actAr])))
 ·rw[ZaT (x:=w) (y:=⟨#[110,101,101,100]⟩) (by rw[h];decide),ZaT (x:=w) (y:=⟨#[111,114,100,101,114]⟩) (by rw[h];decide)]
  exact no (Zbi (.inr (by rw[hi];simp [actAr])))
 ·rw[ZaT h1,ZaT h2]
  exact no (Zbi (.inl hi))
theorem Zrf {N:Nat} {l:Lg} (hs:SmL l) (hb:ledB l=true) (w:Xo) (a b c d:Int) (hN:4194304≤N):SameL l (kTail N l w [a,b,c,d]) (bif Go.Rx.seq w ⟨#[112,101,114,105,111,100]⟩ then (Q115 N l (1,(a,(b,(c,d))))).bind fun r6=>some ((r6.1.1,r6.1.2),()) else some ((l,⟨#[63]⟩),())):=by
 have no:(actOfV w [a,b,c,d]).2=false→SameL l (kTail N l w [a,b,c,d]) (some ((l,⟨#[63]⟩),())):=fun h=>Zi4 hs hb h (by simp)
 rcases Zds w with ⟨h,hi⟩ | ⟨h,hi⟩ | ⟨h,hi⟩ | ⟨h,hi⟩ | ⟨h,hi⟩ | ⟨h,hi⟩ | ⟨hi,h0,h1,h2,h3,h4,h5⟩
 ·rw[show Go.Rx.seq w ⟨#[112,101,114,105,111,100]⟩=true by rw[h];exact ZfN _]
  exact Zel (ZdJ hs hb hN (ZdK (ns:=[a,b,c,d]) hi (by decide) rfl))
 all_goals first | rw[ZaT (x:=w) (y:=⟨#[112,101,114,105,111,100]⟩) (by rw[h];decide)] | rw[ZaT h0]
 all_goals first | exact no (Zbi (.inl hi)) | exact no (Zbi (.inr (by rw[hi];simp [actAr])))
theorem Zkd {w:Xo} {ns:List Int} (h2:ns.length≠2) (h4:ns.length≠4) (h0:ns.length≠0):(actOfV w ns).2=false:=by
 refine Zbi ?_;rcases Zds w with ⟨h,hi⟩ | ⟨h,hi⟩ | ⟨h,hi⟩ | ⟨h,hi⟩ | ⟨h,hi⟩ | ⟨h,hi⟩ | ⟨hi,_⟩<;>rw[hi]
 case inr.inr.inr.inr.inr.inr=>exact .inl rfl
 ·exact .inr h4
 ·exact .inr h2
 ·exact .inr h2
 ·exact .inr h0
 ·exact .inr h0
 ·exact .inr h0
theorem Zom {N:Nat} {l:Lg} (hs:SmL l) (hb:ledB l=true) {s:Xo} (hz:s.size≤1000) (hN:4194304≤N):SameL l (Q60 N l s) (Q116 N l s):=by
 have hp:=ZpA s;have hl:=Zi0 32 s;have h1:=Zoj (s:=s);rw[ZkU hz hN];simp only[Q116,show (32:Int)=(((32:UInt8).toNat:Nat):Int) from rfl,Zpf 32 (show s.size<1000000 by omega) hN,Xa,ieq_eq,len_eq];generalize wsOf 32 s=ws at hp hl h1 ⊢;by_cases hw1:ws.length=1
 ·have e:=h1 hw1
  subst e;rw[show nsB [s]=true from rfl,Zok (by simp) (by simp [nsOf])];exact Zel (Zrc hs hb s hN)
 ·simp only[Xb (show ¬((ws.length:Nat):Int)=1 by omega),Xe,ZmB (N:=N) (ws:=ws) (by omega) hN,Xa]
  cases hB:nsB ws with
  | false=>exact ⟨l,_,rfl,rfl,hb,hs,by decide, .inl rfl⟩
  | true=>
   have hn:=Zi3 ws (ws.length - 1);simp only[Xd,Bool.not_true,Xe,Zf (ZaL (i:=0) (n:=ws.length) (by omega) (by omega)),Int.toNat_zero];rw[Zok hp (by rw[hn];omega)]
   generalize nsOf ws (ws.length - 1)=ns at hn ⊢;have hn2:1≤ns.length:=by omega
   match ns,hn2 with
   | [k],_=>exact Zrd hs hb _ k hN
   | [a,b],_=>exact Zre hs hb _ a b hN
   | [a,b,c],_=>exact Zi4 hs hb (Zkd (by simp) (by simp) (by simp)) (by simp)
   | [a,b,c,d],_=>exact Zrf hs hb _ a b c d hN
   | a::b::c::d::e::r,_=>
    have e1:decide (((a::b::c::d::e::r).length:Int)=1)=false:=Xb (by simp only[List.length_cons];omega)
    have e2:decide (((a::b::c::d::e::r).length:Int)=2)=false:=Xb (by simp only[List.length_cons];omega)
    have e4:decide (((a::b::c::d::e::r).length:Int)=4)=false:=Xb (by simp only[List.length_cons];omega)
    rw[e1,e2,e4];exact Zi4 hs hb (Zkd (by simp) (by simp) (by simp)) (by simp)
def SmCon (c:Con):Prop:=SmL c.1∧c.2.1.size<4194304∧c.2.2.1.size<4194304
theorem Zrg {N:Nat} {l:Lg} (h:SmL l):Q38 N l=some (l,()):=by
 have h0:=h.c.s0;have h1:=h.c.s1;have h2:=h.c.s2;have h3:=h.c.s3;have h4:=h.p;have key:∀xs:List Int,xs.length<4194304→Q58 N xs=some (xs,()):=fun xs hx=>by
  simp only[Q58,Zf (Zn (n:=0+xs.length) (b:=8) (by omega) (by omega))]
 simp only[Q38,key _ h0,key _ h1,key _ h2,key _ h3,key _ h4,Xa]
theorem ZqY {N:Nat} {l:Lg} (h:SmL l):Q127 N l=some (l,()):=by
 have h0:=h.c.s0;have h1:=h.c.s1;have h2:=h.c.s2;have h3:=h.c.s3;have h4:=h.p;have key:∀xs:List Int,xs.length<4194304→Q141 N xs=some (xs,()):=fun xs hx=>by
  simp only[Q141,Zf (Zn (n:=0+xs.length) (b:=8) (by omega) (by omega))]
 simp only[Q127,key _ h0,key _ h1,key _ h2,key _ h3,key _ h4,Xa]
def cmdB (s:Xo):Bool:= !(Go.Rx.seq s (⟨#[]⟩:Xo)) && (plB s && (decide ((s.size:Int)≤160) && !(hasB s 35 || hasB s 64)))
def conB (c:Con):Bool:=ledB c.1 && logB c.2
theorem Zon (s:Xo):recB (s,⟨#[]⟩)=cmdB s:=by
 have h1:plB (⟨#[]⟩:Xo)=true:=by decide
 have h2:hasB (⟨#[]⟩:Xo) 35=false:=by decide
 have h3:decide (((⟨#[]⟩:Xo).size:Int)≤200)=true:=by decide
 simp only[recB,cmdB,h1,h2,h3,Bool.not_false,Bool.and_true,Bool.true_and];cases hasB s 35<;>cases hasB s 64<;>simp
theorem Zrh {N:Nat} {c:Con} (h:SmCon c) (hN:4194304≤N):Q33 N c=some (conB c,()):=by
 obtain ⟨hs,s1,s2⟩:=h;simp only[Q33,ZM hs hN,Za5 (l:=c.2) s1 s2 hN,Xa,conB];cases ledB c.1<;>rfl
theorem Zri {N:Nat} {c:Con} (h:SmCon c) (hN:4194304≤N):Q102 N c=some (conB c,()):=by
 obtain ⟨hs,s1,s2⟩:=h;simp only[Q102,Zab hs hN,ZaM (l:=c.2) s1 s2 hN,Xa,conB];cases ledB c.1<;>rfl
theorem Zoo {l:Lo} (h1:l.1.size<4194304) (h2:l.2.1.size<4194304) (e:Xo×Xo):(appT l e).1.1.size<4194304∧(appT l e).1.2.1.size<4194304:=by
 have h3:=Zj2 l e;by_cases hv:logB l=true
 ·have:=ZbO hv;omega
 ·have:appT l e=(l,1):=by unfold appT;rw[if_neg (fun h=>hv h.1)]
  rw[this];exact ⟨h1,h2⟩
def Did (c:Con) (s:Xo) (r:Con×Xo):Prop:=
 r.1=c∨(conB c=true∧cmdB s=true∧c.2.2.2≠60∧r.1.2=(appT c.2 (s,r.2)).1∧ledB r.1.1=true∧(r.1.1=c.1∨RepP r.2))
theorem Zke {N:Nat} {c:Con} {s:Xo} (h:SmCon c) (hz:s.size<4194304) (hN:4194304≤N):∃r:Con×Xo,Q26 N c s=some (r,())∧Q98 N c s=some (r,())∧SmCon r.1∧r.2.size<100000∧Did c s r:=by
 obtain ⟨hs,s1,s2⟩:=id h;have hc:(!(Go.Rx.seq s (⟨#[]⟩:Xo)) && (plB s && (decide ((s.size:Int)≤160) && !(hasB s 35 || hasB s 64))))=cmdB s:=rfl;simp only[Q26,Q98,Zrg hs,ZqY hs,Zrh h hN,Zri h hN,ZcA hz hN,hc,Zbf (e:=(s,⟨#[]⟩)) hz (show (⟨#[]⟩:Xo).size<4194304 by decide) hN,Zon,Xa,ieq_eq];cases hv:conB c with
 | false=>exact ⟨(c,⟨#[110,111]⟩),rfl,rfl,h,show (⟨#[110,111]⟩:Xo).size<100000 by decide, .inl rfl⟩
 | true=>
 cases hm:cmdB s with
 | false=>exact ⟨(c,⟨#[98,97,100]⟩),rfl,rfl,h,show (⟨#[98,97,100]⟩:Xo).size<100000 by decide, .inl rfl⟩
 | true=>
 by_cases hk:c.2.2.2=60
 ·rw[Xc hk]
  exact ⟨(c,⟨#[102,117,108,108]⟩),rfl,rfl,h,show (⟨#[102,117,108,108]⟩:Xo).size<100000 by decide, .inl rfl⟩
 ·rw[Xb hk]
  have hb:ledB c.1=true:=by
   have hv':=hv;simp only[conB,Xh] at hv';exact hv'.1
  have h160:s.size≤160:=by
   have hm':=hm;simp only[cmdB,Xh,Xi] at hm';omega
  obtain ⟨l',r,e1,e2,b',sm',rs,fin⟩:=Zom hs hb (s:=s) (by omega) hN;have a1:=ZdO (N:=N) (l:=c.2) (e:=(s,r)) s1 s2 (by show s.size<4194304;omega) (by show r.size<4194304;omega) hN
  have a2:=Zao (N:=N) (l:=c.2) (e:=(s,r)) s1 s2 (by show s.size<4194304;omega) (by show r.size<4194304;omega) hN
  simp only[Bool.not_true,Xe,e1,e2,Xa,a1,a2,ZqY sm'];exact ⟨((l',(appT c.2 (s,r)).1),r),rfl,rfl,⟨sm',Zoo s1 s2 _⟩,rs, .inr ⟨hv,hm,hk,rfl,b',fin⟩⟩
theorem Zi5 (c:UInt8):∀(l a:List UInt8),∀w∈spl c a l,w.length≤a.length+l.length
 | [],a,w,h=>by simp [spl] at h;subst h;simp
 | b::l,a,w,h=>by
  rw[spl] at h;split at h
  ·rcases List.mem_cons.1 h with rfl | h
   ·simp
   ·have:=Zi5 c l [] w h
    simp at this ⊢;omega
  ·have:=Zi5 c l _ w h
   simp at this ⊢;omega
theorem Zqp (c:UInt8) (s:Xo) (i:Nat):(gd (wsOf c s) i ⟨#[]⟩).size≤s.size:=by
 by_cases h:i<(wsOf c s).length
 ·have hm:gd (wsOf c s) i ⟨#[]⟩∈wsOf c s:=by
   rw[gd,List.getD_eq_getElem?_getD,List.getElem?_eq_getElem h];exact List.getElem_mem h
  unfold wsOf at hm ⊢;obtain ⟨w,h1,h2⟩:=List.mem_map.1 hm;rw[←h2];have:=Zi5 c _ [] w h1;simp at this;show w.length≤s.size;rw[Zd];exact this
 ·rw[gd,List.getD_eq_getElem?_getD,List.getElem?_eq_none (by omega)]
  exact Nat.zero_le _
noncomputable def exC (N:Nat) (c:Con) (s:Xo):Con×Xo:=Option.elim (Q26 N c s) (c,⟨#[]⟩) fun r=>r.1
theorem ZmC {N:Nat} {c:Con} {s:Xo} (h:SmCon c) (hz:s.size<4194304) (hN:4194304≤N):Q26 N c s=some (exC N c s,())∧Q98 N c s=some (exC N c s,())∧SmCon (exC N c s).1∧(exC N c s).2.size<100000∧Did c s (exC N c s):=by
 obtain ⟨r,e1,e2,h3,h4,h5⟩:=Zke h hz hN;have e:exC N c s=r:=by unfold exC;rw[e1];rfl
 rw[e];exact ⟨e1,e2,h3,h4,h5⟩
noncomputable def goC (N:Nat) (lines:List Xo) (c:Con):Nat→Con
 | 0=>c
 | i+1=>(exC N (goC N lines c i) (gd lines i ⟨#[]⟩)).1
theorem ZlW {N:Nat} {lines:List Xo} {c:Con} (h:SmCon c) (hz:∀i,(gd lines i ⟨#[]⟩).size<4194304) (hN:4194304≤N):∀i,SmCon (goC N lines c i)
 | 0=>h
 | i+1=>(ZmC (ZlW h hz hN i) (hz i) hN).2.2.1
noncomputable def cmdsOf (all:List (Xo×Xo)):List Xo:=all.map (·.1)
def okAt (N:Nat) (all:List (Xo×Xo)) (c:Con) (i:Nat):Prop:=(exC N (goC N (cmdsOf all) c i) (gd all i noR).1).2=(gd all i noR).2
theorem Zdt (all:List (Xo×Xo)) (i:Nat):gd (cmdsOf all) i ⟨#[]⟩=(gd all i noR).1:=by
 simp only[cmdsOf,gd,List.getD_eq_getElem?_getD,List.getElem?_map];cases all[i]? <;>rfl
theorem Zkf {l:Lo} (h:logB l=true):recsT l=(rdR 60 0 (bts l.1++bts l.2.1),true):=by unfold recsT;rw[if_pos h]
theorem Zop:∀(n k:Nat) (B:List UInt8),∀e∈rdR n k B,RecP e
 | 0,_,_,e,h=>by cases h
 | n+1,k,B,e,h=>by
  rw[rdR] at h;cases hn:nxR k B with
  | none=>rw[hn] at h;cases h
  | some e'=>
   rw[hn] at h;rcases List.mem_cons.1 h with rfl | h
   ·exact (ZeW.1 (ZnS hn).2).hr
   ·exact Zop n _ _ e h
theorem ZqZ {α:Type} {l:List α} {i:Nat} (d:α) (h:i<l.length):gd l i d∈l:=by
 rw[gd,List.getD_eq_getElem?_getD,List.getElem?_eq_getElem h];exact List.getElem_mem h
theorem Ze4 {B:List UInt8} (i:Nat):(gd (cmdsOf (rdR 60 0 B)) i ⟨#[]⟩).size<4194304:=by
 rw[Zdt];by_cases h:i<(rdR 60 0 B).length
 ·have hp:=Zop 60 0 B _ (ZqZ noR h)
  have h1:=hp.n1;rw[Zd];omega
 ·rw[gd,List.getD_eq_getElem?_getD,List.getElem?_eq_none (by omega)]
  exact (show (⟨#[]⟩:Xo).size<4194304 by decide)
theorem Ze5 {l:Lg} (hs:SmL l):SmCon (newCon l).1:=by
 refine ⟨Znr hs, ?_, ?_⟩<;> · unfold newCon;cases ledB l<;>exact (show (⟨#[]⟩:Xo).size<4194304 by decide)
theorem ZlX {N:Nat} {c:Con} {B:List UInt8} (h:SmCon c) (b:List (Xo×Xo)×Bool) (hb:b.1=rdR 60 0 B) (hN:4194304≤N) {j:Nat} (hj:j≤b.1.length) (hall:∀i,i<j→okAt N b.1 c i):
  (j=b.1.length→Q45_L1 N N (len b.1) 0 c b=some (((b.1.length:Int),true),()))∧(j<b.1.length→¬okAt N b.1 c j→Q45_L1 N N (len b.1) 0 c b=some (((j:Int),true),())):=by
 have hl:=Zfw 60 0 B;rw[←hb] at hl;have hsm:∀i,SmCon (goC N (cmdsOf b.1) c i):=ZlW h (fun i=>by rw[hb];exact Ze4 i) hN
 have hex:∀i,Q26 N (goC N (cmdsOf b.1) c i) (gd b.1 i noR).1=some (exC N (goC N (cmdsOf b.1) c i) (gd b.1 i noR).1,()):=fun i=>by
  have:=(ZmC (hsm i) (show (gd (cmdsOf b.1) i ⟨#[]⟩).size<4194304 by rw[hb];exact Ze4 i) hN).1
  rwa [Zdt] at this
 have step:∀i,i<b.1.length→∀kx,Q45_B1 N kx (b.1.length:Int) (i:Nat) (goC N (cmdsOf b.1) c i) b=bif !(Go.Rx.seq (exC N (goC N (cmdsOf b.1) c i) (gd b.1 i noR).1).2 (gd b.1 i noR).2) then some (((i:Int),true),()) else kx (b.1.length:Int) ((i+1:Nat):Int) (goC N (cmdsOf b.1) c (i+1)) b:=fun i hi kx=>by
  simp only[Q45_B1,ilt_eq,Xk,hi,Xf,Xd,Zb hi,chk_true',Xj,hex i,Xa,Zc (show i<4611686018427387904 by omega),goC,Zdt]
 have run:∀i,i<j→∀kx,Q45_B1 N kx (b.1.length:Int) (i:Nat) (goC N (cmdsOf b.1) c i) b=kx (b.1.length:Int) ((i+1:Nat):Int) (goC N (cmdsOf b.1) c (i+1)) b:=fun i hi kx=>by
  have e:(exC N (goC N (cmdsOf b.1) c i) (gd b.1 i noR).1).2=(gd b.1 i noR).2:=hall i hi;rw[step i (by omega),e,ZfN];rfl
 rw[len_eq];refine ⟨fun hjl=> ?_,fun hjl hno=> ?_⟩
 ·refine Q45_L1_run N (fun _=>(b.1.length:Int)) (fun i=>(i:Int)) (goC N (cmdsOf b.1) c) (fun _=>b) j run (fun kx=> ?_) N (by omega)
  subst hjl;simp only[Q45_B1,Q45_K1,ilt_eq,Xn,Xg,Xe,len_eq]
 ·refine Q45_L1_run N (fun _=>(b.1.length:Int)) (fun i=>(i:Int)) (goC N (cmdsOf b.1) c) (fun _=>b) j run (fun kx=> ?_) N (by omega)
  rw[step j hjl,ZaT hno];rfl
theorem ZlY {N:Nat} {c:Con} {B:List UInt8} (h:SmCon c) (b:List (Xo×Xo)×Int) (hb:b.1=rdR 60 0 B) (hN:4194304≤N) {j:Nat} (hj:j≤b.1.length) (hall:∀i,i<j→okAt N b.1 c i):
  (j=b.1.length→Q104_L1 N N 0 c b=some (((b.1.length:Int),true),()))∧(j<b.1.length→¬okAt N b.1 c j→Q104_L1 N N 0 c b=some (((j:Int),true),())):=by
 have hl:=Zfw 60 0 B;rw[←hb] at hl;have hsm:∀i,SmCon (goC N (cmdsOf b.1) c i):=ZlW h (fun i=>by rw[hb];exact Ze4 i) hN
 have hex:∀i,Q98 N (goC N (cmdsOf b.1) c i) (gd b.1 i noR).1=some (exC N (goC N (cmdsOf b.1) c i) (gd b.1 i noR).1,()):=fun i=>by
  have:=(ZmC (hsm i) (show (gd (cmdsOf b.1) i ⟨#[]⟩).size<4194304 by rw[hb];exact Ze4 i) hN).2.1
  rwa [Zdt] at this
 have step:∀i,i<b.1.length→∀kx,Q104_B1 N kx (i:Nat) (goC N (cmdsOf b.1) c i) b=bif !(Go.Rx.seq (exC N (goC N (cmdsOf b.1) c i) (gd b.1 i noR).1).2 (gd b.1 i noR).2) then some (((i:Int),true),()) else kx ((i+1:Nat):Int) (goC N (cmdsOf b.1) c (i+1)) b:=fun i hi kx=>by
  simp only[Q104_B1,ilt_eq,len_eq,Xk,hi,Xf,Xd,Zb hi,chk_true',Xj,hex i,Xa,Zc (show i<4611686018427387904 by omega),goC,Zdt]
 have run:∀i,i<j→∀kx,Q104_B1 N kx (i:Nat) (goC N (cmdsOf b.1) c i) b=kx ((i+1:Nat):Int) (goC N (cmdsOf b.1) c (i+1)) b:=fun i hi kx=>by
  have e:(exC N (goC N (cmdsOf b.1) c i) (gd b.1 i noR).1).2=(gd b.1 i noR).2:=hall i hi;rw[step i (by omega),e,ZfN];rfl
 refine ⟨fun hjl=> ?_,fun hjl hno=> ?_⟩
 ·refine Q104_L1_run N (fun i=>(i:Int)) (goC N (cmdsOf b.1) c) (fun _=>b) j run (fun kx=> ?_) N (by omega)
  subst hjl;simp only[Q104_B1,Q104_K1,ilt_eq,len_eq,Xn,Xg,Xe]
 ·refine Q104_L1_run N (fun i=>(i:Int)) (goC N (cmdsOf b.1) c) (fun _=>b) j run (fun kx=> ?_) N (by omega)
  rw[step j hjl,ZaT hno];rfl
theorem ZlZ (p:Nat→Prop):∀n,(∀i,i<n→p i)∨(∃j,j<n∧(∀i,i<j→p i)∧¬p j)
 | 0=> .inl fun i h=>by omega
 | n+1=>by
  rcases ZlZ p n with h | ⟨j,h1,h2,h3⟩
  ·rcases Classical.em (p n) with hn | hn
   ·refine .inl fun i hi=> ?_
    by_cases e:i=n
    ·subst e;exact hn
    ·exact h i (by omega)
   ·exact .inr ⟨n,by omega,h,hn⟩
  ·exact .inr ⟨j,by omega,h2,h3⟩
theorem Zhj {N:Nat} {l:Lg} {log:Lo} (hs:SmL l) (s1:log.1.size<4194304) (s2:log.2.1.size<4194304) (hN:4194304≤N):∃r,Q45 N l log=some (r,())∧Q104 N l log=some (r,())∧
  (ledB l=true→logB log=true→(∀i,i<(recsT log).1.length→okAt N (recsT log).1 (newCon l).1 i)→r=(((recsT log).1.length:Int),true)):=by
 simp only[Q45,Q104,Zcc hs hN,Za2 hs hN,ZeY s1 s2 hN,ZaM s1 s2 hN,Xa];have hn2:(newCon l).2=ledB l:=by unfold newCon;cases ledB l<;>rfl
 rw[hn2];cases hb:ledB l with
 | false=>exact ⟨(0,false),rfl,rfl,fun h=>by cases h⟩
 | true=>
 cases hv:logB log with
 | false=>
  have:recsT log=([],false):=by unfold recsT;rw[if_neg (by rw[hv];simp)]
  rw[this];exact ⟨(0,false),rfl,rfl,fun _ h=>by cases h⟩
 | true=>
  have hsz:=(ZbO hv).1;have e1:=Zkf hv;rw[e1];have hlen:(bts log.1++bts log.2.1).length=log.1.size+log.2.1.size:=by rw[Xm,Zd,Zd]
  simp only[Bool.not_true,Xe];rw[Zy (by omega),chk_true',Zei,Zb3 (by rw[Zg];omega) hN]
  simp only[Xa,Zg];have hc:=Ze5 hs;generalize (newCon l).1=c at hc ⊢;rcases ZlZ (okAt N (rdR 60 0 (bts log.1++bts log.2.1)) c) (rdR 60 0 (bts log.1++bts log.2.1)).length with h | ⟨j,h1,h2,h3⟩
  ·exact ⟨_,(ZlX hc (rdR 60 0 (bts log.1++bts log.2.1),true) rfl hN (Xl _) h).1 rfl,(ZlY hc (rdR 60 0 (bts log.1++bts log.2.1),_) rfl hN (Xl _) h).1 rfl,fun _ _ _=>rfl⟩
  ·exact ⟨_,(ZlX hc (rdR 60 0 (bts log.1++bts log.2.1),true) rfl hN (Nat.le_of_lt h1) h2).2 h1 h3,(ZlY hc (rdR 60 0 (bts log.1++bts log.2.1),_) rfl hN (Nat.le_of_lt h1) h2).2 h1 h3,fun _ _ h=>absurd (h j h1) h3⟩
end Go.Rx.Px
