/- This text proves, of the plain functions behind FnReplay, that the law answers true (part 1 of 3); no condition beyond the ranges that its arguments have. -/
import Derived.Test.YtndchhdnmnfnlaaGreatDoorPxFnReplay
set_option linter.unusedVariables false
set_option linter.unusedSimpArgs false
namespace Go.Rx
theorem Zcg {n:Int} (h1: -9223372036854775808≤n) (h2:n<9223372036854775808):IntKind.i64.wrap n=n:=by
 simp [IntKind.wrap,IntKind.bits,IntKind.signed];omega
theorem Zh {a b:Int} (h1: -9223372036854775808≤a+b) (h2:a+b<9223372036854775808):iadd .i64 a b=a+b:=Zcg h1 h2
theorem Zv {a b:Int} (h1: -9223372036854775808≤a - b) (h2:a - b<9223372036854775808):isub .i64 a b=a - b:=Zcg h1 h2
theorem ZV {a b:Int} (h1: -9223372036854775808≤a*b) (h2:a*b<9223372036854775808):imul .i64 a b=a*b:=Zcg h1 h2
theorem Zc {i:Nat} (h:i<4611686018427387904):iadd .i64 (i:Int) 1=((i+1:Nat):Int):=by rw[Zh (by omega) (by omega)];omega
@[simp] theorem ilt_eq (a b:Int):ilt a b=decide (a<b):=rfl
@[simp] theorem ile_eq (a b:Int):ile a b=decide (a≤b):=rfl
@[simp] theorem ieq_eq (a b:Int):ieq a b=decide (a=b):=rfl
@[simp] theorem ine_eq (a b:Int):ine a b= !decide (a=b):=rfl
@[simp] theorem len_eq {α:Type} (xs:List α):len xs=(xs.length:Int):=rfl
@[simp] theorem beq_eq (a b:Bool):Go.Rx.beq a b=(a==b):=rfl
theorem Zp0 (i n:Nat):inB (i:Int) n=decide (i<n):=by simp [inB]
theorem Zb {i n:Nat} (h:i<n):inB (i:Int) n=true:=by simp [Zp0,h]
theorem ZaL {i:Int} {n:Nat} (h0:0≤i) (h:i<n):inB i n=true:=by simp [inB,h0,h]
theorem ZA {l h:Int} {n:Nat} (h0:0≤l) (h1:l≤h) (h2:h≤n):cutB l h n=true:=by simp [cutB,h0,h1,h2]
theorem Zn {n b:Nat} (h:n<4194304) (hb:b≤1024):fitB n b=true:=by
 have:n*b≤4194304*1024:=Nat.mul_le_mul (by omega) hb;simp only[fitB,Xh,Xi];omega
theorem ZjP {n b:Nat} (h:n<4194304) (hb:b≤1024):mkB (n:Int) b=true:=by
 have:n*b≤4194304*1024:=Nat.mul_le_mul (by omega) hb;simp only[mkB,Xh,Xi,Xj];omega
@[simp] theorem chk_true' {α:Type} (x:Option α):chk true x=x:=rfl
@[simp] theorem chk_false {α:Type} (x:Option α):chk false x=none:=rfl
theorem ZeF {α:Type} (p:α→Bool) (d:α):∀(xs:List α),(xs.all p=true∧∀i,i<xs.length→p (gd xs i d)=true)∨(xs.all p=false∧∃j,j<xs.length∧(∀i,i<j→p (gd xs i d)=true)∧p (gd xs j d)=false)
 | []=> .inl ⟨rfl,fun i h=>by simp at h⟩
 | a::xs=>by
  cases ha:p a with
  | false=>exact .inr ⟨by simp [ha],0,by simp,fun i h=>by omega,by simpa [gd] using ha⟩
  | true=>
   rcases ZeF p d xs with ⟨h,hall⟩ | ⟨h,j,hj,hb,hat⟩
   ·refine .inl ⟨by simp [ha] at h ⊢;exact h,fun i hi=> ?_⟩
    cases i with
    | zero=>simpa [gd] using ha
    | succ i=>simpa [gd] using hall i (by simpa using hi)
   ·refine .inr ⟨by rw[List.all_cons,ha,h];rfl,j+1,by simpa using hj,fun i hi=> ?_,by simpa [gd] using hat⟩
    cases i with
    | zero=>simpa [gd] using ha
    | succ i=>simpa [gd] using hb i (by omega)
theorem ZZ (p:Nat→Bool):∀(n:Nat),(∀i,i<n→p i=true)∨(∃j,j<n∧(∀i,i<j→p i=true)∧p j=false)
 | 0=> .inl fun i h=>by omega
 | n+1=>by
  rcases ZZ p n with h | ⟨j,hj,hb,hat⟩
  ·cases hn:p n with
   | true=>exact .inl fun i hi=>by by_cases e:i=n;exact e▸hn;exact h i (by omega)
   | false=>exact .inr ⟨n,by omega,h,hn⟩
  ·exact .inr ⟨j,by omega,hb,hat⟩
theorem Znf {α:Type} (xs:List α) (i j:Nat) (d:α) (h:i<j):gd (xs.take j) i d=gd xs i d:=by simp [gd,List.getD_eq_getElem?_getD,h]
theorem take_succ {α:Type} (xs:List α) (i:Nat) (d:α) (h:i<xs.length):xs.take (i+1)=xs.take i++[gd xs i d]:=by
 rw[List.take_succ_eq_append_getElem h];simp [gd,List.getD_eq_getElem?_getD,h]
theorem ZeG {α:Type} {xs:List α} {i:Nat} (d:α) (h:i<xs.length):gd xs i d∈xs:=by
 rw[gd,List.getD_eq_getElem?_getD,List.getElem?_eq_getElem h];simp
def inRg (lo hi x:Int):Bool:=decide (lo≤x) && decide (x≤hi)
def bd (b:Int) (xs:List Int):Prop:=∀i,i<xs.length→0≤gd xs i 0∧gd xs i 0≤b
theorem ZqI {α:Type} {p:α→Bool} {xs:List α} (d:α) (h:xs.all p=true):∀i,i<xs.length→p (gd xs i d)=true:=fun _ hi=>List.all_eq_true.1 h _ (ZeG d hi)
theorem Zq5 {b:Int} {xs:List Int} (h:xs.all (inRg 0 b)=true):bd b xs:=fun i hi=>by
 have:=ZqI 0 h i hi
 simpa [inRg] using this
theorem Zh2 {b:Int} {xs:List Int}:xs.all (inRg 0 b)=true↔bd b xs:=by
 refine ⟨Zq5,fun h=> ?_⟩;rcases ZeF (inRg 0 b) 0 xs with ⟨h1,_⟩ | ⟨_,j,hj,_,hat⟩
 ·exact h1
 ·have:=h j hj
  simp [inRg,this] at hat
def psum (xs:List Int) (i:Nat):Int:=(xs.take i).sum
theorem ZeH (xs:List Int):psum xs 0=0:=by simp [psum]
theorem psum_succ {xs:List Int} {i:Nat} (h:i<xs.length):psum xs (i+1)=psum xs i+gd xs i 0:=by
 unfold psum;rw[take_succ xs i 0 h];simp
theorem Zlp (xs:List Int):psum xs xs.length=xs.sum:=by simp [psum]
theorem ZbW {b:Int} {xs:List Int} (h:bd b xs):∀i,i≤xs.length→0≤psum xs i∧psum xs i≤b*i
 | 0,_=>by simp [ZeH]
 | i+1,hi=>by
  have h1:=ZbW h i (by omega);have h2:=h i (by omega);rw[psum_succ (by omega)];have:b*((i+1:Nat):Int)=b*i+b:=by rw[Int.natCast_add,Int.mul_add];simp
  omega
theorem Zcv {b:Int} {xs:List Int} (h:bd b xs) {i:Nat}:∀ {j:Nat},i≤j→j≤xs.length→psum xs i≤psum xs j
 | 0, hij, _ => by obtain rfl : i = 0 := by omega
                   omega
 | j+1,hij,hj=>by
  by_cases e:i=j+1
  ·rw[e];omega
  ·have:=Zcv h (show i≤j by omega) (by omega)
   have h2:=h j (by omega);rw[psum_succ (by omega)];omega
theorem Zng {b:Int} {xs:List Int} (h:bd b xs) (n:Nat):bd b (xs.take n):=fun i hi=>by
 have hi':i<n∧i<xs.length:=by rw[List.length_take] at hi;omega
 rw[Znf xs i n 0 hi'.1];exact h i hi'.2
theorem ZoP {α:Type} (xs:List α) (n:Nat):cut xs 0 (n:Int)=xs.take n:=by simp [cut]
theorem Znh (a b:Bool):(bif a then some (b,()) else some (false,()))=some (a && b,()):=by cases a<;>rfl
theorem Zt {α:Type} (a:Bool) (x y:α):(bif !a then x else y)=bif a then y else x:=by cases a<;>rfl
def RngI (xs:List Int):Prop:=xs.length≤maxLen∧∀i,i<xs.length→(Lit.int .i64 (xs.getD i 0)).wf=true
def RngZ (x:Int):Prop:=(Lit.int .i64 x).wf=true
theorem RngZ.bd {x:Int} (h:RngZ x): -9223372036854775808≤x∧x≤9223372036854775807:=by
 simpa [RngZ,Lit.wf,IntKind.min,IntKind.max,IntKind.signed,IntKind.bits] using h
theorem RngI.bd {xs:List Int} (h:RngI xs):∀i,i<xs.length→ -9223372036854775808≤gd xs i 0∧gd xs i 0≤9223372036854775807:=fun i hi=>RngZ.bd (h.2 i hi)
end Go.Rx
namespace Go.Rx.Px
abbrev Cs:=List Int×List Int×List Int×List Int
abbrev Lg:=Cs×List Int×Int
theorem Zz (N:Nat) (x lo hi:Int):Q70 N x lo hi=some (inRg lo hi x,()):=by
 simp only[Q70,ile_eq,inRg];by_cases h:lo≤x<;>simp [h]
theorem ZI (N:Nat) (x lo hi:Int):Q137 N x lo hi=some (inRg lo hi x,()):=by
 simp only[Q137,ile_eq,inRg];by_cases h:lo≤x<;>simp [h]
theorem Z9 {N:Nat} {xs:List Int} {lo hi:Int} (hl:xs.length<4194304) (hN:4194304≤N):Q54 N xs lo hi=some (xs.all (inRg lo hi),()):=by
 unfold Q54;rcases ZeF (inRg lo hi) 0 xs with ⟨h,hall⟩ | ⟨h,j,hj,hbef,hat⟩
 ·refine Q54_L1_run N (fun _=>lo) (fun _=>hi) (fun _=>xs) (fun _=>xs.length) (fun i=>i) xs.length (fun i hi kx=> ?_) (fun kx=> ?_) N (by omega)
  ·simp [Q54_B1,hi,Zb hi,Zz,hall i hi,Zc (show i<4611686018427387904 by omega)]
  ·simp [Q54_B1,Q54_K1,h]
 ·refine Q54_L1_run N (fun _=>lo) (fun _=>hi) (fun _=>xs) (fun _=>xs.length) (fun i=>i) j (fun i hi kx=> ?_) (fun kx=> ?_) N (by omega)
  ·simp [Q54_B1,show i<xs.length by omega,Zb (show i<xs.length by omega),Zz,hbef i hi,Zc (show i<4611686018427387904 by omega)]
  ·simp [Q54_B1,hj,Zb hj,Zz,hat,h]
theorem ZaG {N:Nat} {xs:List Int} {n hi:Int} (hl:xs.length<4194304) (hN:4194304≤N):Q156 N xs n hi=some (xs.all (inRg 0 hi) && decide ((xs.length:Int)=n),()):=by
 unfold Q156;rcases ZeF (inRg 0 hi) 0 xs with ⟨h,hall⟩ | ⟨h,j,hj,hbef,hat⟩
 ·refine Q156_L1_run N (fun _=>xs) (fun _=>n) (fun _=>hi) (fun i=>i) xs.length (fun i hi kx=> ?_) (fun kx=> ?_) N (by omega)
  ·simp [Q156_B1,hi,Zb hi,ZI,hall i hi,Zc (show i<4611686018427387904 by omega)]
  ·simp [Q156_B1,Q156_K1,h]
 ·refine Q156_L1_run N (fun _=>xs) (fun _=>n) (fun _=>hi) (fun i=>i) j (fun i hi kx=> ?_) (fun kx=> ?_) N (by omega)
  ·simp [Q156_B1,show i<xs.length by omega,Zb (show i<xs.length by omega),ZI,hbef i hi,Zc (show i<4611686018427387904 by omega)]
  ·simp [Q156_B1,hj,Zb hj,ZI,hat,h]
def caseB (c:Cs):Bool:=decide (c.1.length≤8) && (decide (c.2.1.length=c.1.length) && (decide (c.2.2.1.length=c.1.length) && (decide (c.2.2.2.length=c.1.length) && (c.1.all (inRg 0 20) && (c.2.1.all (inRg 0 99) && (c.2.2.1.all (inRg 0 9) && c.2.2.2.all (inRg 0 9)))))))
structure CaseP (c:Cs):Prop where
 n:c.1.length≤8
 l1:c.2.1.length=c.1.length
 l2:c.2.2.1.length=c.1.length
 l3:c.2.2.2.length=c.1.length
 b0:bd 20 c.1
 b1:bd 99 c.2.1
 b2:bd 9 c.2.2.1
 b3:bd 9 c.2.2.2
theorem ZB {c:Cs}:caseB c=true↔CaseP c:=by
 simp only[caseB,Xh,Xi,Zh2];exact ⟨fun ⟨a,b,c,d,e,f,g,h⟩=>⟨a,b,c,d,e,f,g,h⟩,fun ⟨a,b,c,d,e,f,g,h⟩=>⟨a,b,c,d,e,f,g,h⟩⟩
structure SmC (c:Cs):Prop where
 s0:c.1.length<4194304
 s1:c.2.1.length<4194304
 s2:c.2.2.1.length<4194304
 s3:c.2.2.2.length<4194304
theorem ZK {N:Nat} {c:Cs} (hc:SmC c) (hN:4194304≤N):Q31 N c=some (caseB c,()):=by
 have e0:ile (len c.1) 8=decide (c.1.length≤8):=by simp only[ile_eq,len_eq,decide_eq_decide];omega
 have e1:∀a b:List Int,ieq (len a) (len b)=decide (a.length=b.length):=fun a b=>by simp only[ieq_eq,len_eq,decide_eq_decide];omega
 simp only[Q31,Z9 hc.s0 hN,Z9 hc.s1 hN,Z9 hc.s2 hN,Z9 hc.s3 hN,caseB,e0,e1,Xa,Znh]
theorem ZL {N:Nat} {c:Cs} (hc:SmC c) (hN:4194304≤N):Q153 N c=some (caseB c,()):=by
 have e0:ile (c.1.length:Int) 8=decide (c.1.length≤8):=by simp only[ile_eq,decide_eq_decide];omega
 simp only[Q153,len_eq,ZaG hc.s0 hN,ZaG hc.s1 hN,ZaG hc.s2 hN,ZaG hc.s3 hN,caseB,e0,Xa,Znh]
 congr 2
 rw[Bool.eq_iff_iff];simp only[Xh,Xi];constructor
 ·rintro ⟨h1,⟨h2,h3⟩,⟨h4,h5⟩,⟨h6,h7⟩,h8,h9⟩;exact ⟨h1,by omega,by omega,by omega,h2,h4,h6,h8⟩
 ·rintro ⟨h1,h2,h3,h4,h5,h6,h7,h8⟩;exact ⟨h1,⟨h5,trivial⟩,⟨h6,by omega⟩,⟨h7,by omega⟩,h8,by omega⟩
theorem ZaH {N:Nat} {xs:List Int} {b:Int} (hb:bd b xs) (hb1:b≤1000000) (hl:xs.length<4194304) (hN:4194304≤N):Q69 N xs=some (xs.sum,()):=by
 have hp:∀i,i≤xs.length→0≤psum xs i∧psum xs i≤1000000*i:=ZbW (fun i hi=>⟨(hb i hi).1,by have:=(hb i hi).2;omega⟩)
 refine Q69_L1_run N (psum xs) (fun _=>xs) (fun _=>xs.length) (fun i=>i) xs.length (fun i hi kx=> ?_) (fun kx=> ?_) N (by omega)
 ·have h1:=hp i (by omega)
  have h2:=hb i hi;simp [Q69_B1,hi,Zb hi,Zc (show i<4611686018427387904 by omega),Zh (show -9223372036854775808≤psum xs i+gd xs i 0 by omega) (by omega),psum_succ hi]
 ·simp [Q69_B1,Q69_K1,Zlp]
def stockAt (plan need:List Int) (t:Nat):Int:=psum plan t - psum need t
structure LedP (l:Lg):Prop where
 c:CaseP l.1
 n:l.2.1.length=l.1.1.length
 b:bd 200 l.2.1
 now:0≤l.2.2∧l.2.2≤l.1.1.length
theorem Zgc {l:Lg} (h:LedP l) {t:Nat} (ht:t≤l.2.1.length):(0≤psum l.2.1 t∧psum l.2.1 t≤1600)∧(0≤psum l.1.1 t∧psum l.1.1 t≤160):=by
 have h1:=ZbW h.b t ht;have h2:=ZbW h.c.b0 t (by have:=h.n;omega)
 have h3:=h.c.n;have h4:=h.n;omega
theorem ZF {N:Nat} {l:Lg} (h:LedP l) {t:Nat} (ht:t≤l.2.1.length) (hN:4194304≤N):Q40 N l t=some (stockAt l.2.1 l.1.1 t,()):=by
 have h4:=h.n;have h3:=h.c.n;have hs:=Zgc h ht
 simp only[Q40,ZoP,Zf (ZA (show (0:Int)≤0 by omega) (show (0:Int)≤t by omega) (show (t:Int)≤l.2.1.length by omega)),Zf (ZA (show (0:Int)≤0 by omega) (show (0:Int)≤t by omega) (show (t:Int)≤l.1.1.length by omega)),
  ZaH (Zng h.b t) (by omega) (by simp;omega) hN,ZaH (Zng h.c.b0 t) (by omega) (by simp;omega) hN,Xa]
 have e:∀xs:List Int,(xs.take t).sum=psum xs t:=fun _=>rfl
 rw[e,e,Zv (by omega) (by omega),stockAt]
theorem ZU {N:Nat} {l:Lg} (h:LedP l) {t:Nat} (ht:t≤l.2.1.length) (hN:4194304≤N):Q133 N l t=some (stockAt l.2.1 l.1.1 t,()):=by
 have h4:=h.n;have h3:=h.c.n;refine Q133_L1_run N (fun _=>t) (stockAt l.2.1 l.1.1) (fun i=>i) (fun _=>l) t (fun i hi kx=> ?_) (fun kx=> ?_) N (by omega)
 ·have h1:=Zgc h (show i≤l.2.1.length by omega)
  have h2:=Zgc h (show i+1≤l.2.1.length by omega);rw[psum_succ (show i<l.2.1.length by omega),psum_succ (show i<l.1.1.length by omega)] at h2;have h5:=h.b i (by omega);simp only[Q133_B1,ilt_eq,Xk,hi,Xf,Xd,Zb (show i<l.2.1.length by omega),Zb (show i<l.1.1.length by omega),chk_true',Xj,Zc (show i<4611686018427387904 by omega)];rw[Zh (by simp only[stockAt];omega) (by simp only[stockAt];omega),Zv (by simp only[stockAt];omega) (by simp only[stockAt];omega)]
  simp only[stockAt];rw[psum_succ (show i<l.2.1.length by omega),psum_succ (show i<l.1.1.length by omega)]
  congr 1;omega
 ·simp [Q133_B1,Q133_K1]
def ledB (l:Lg):Bool:=caseB l.1 && (decide (l.2.1.length=l.1.1.length) && (l.2.1.all (inRg 0 200) && (inRg 0 l.1.1.length l.2.2 && (List.range l.2.2.toNat).all fun i=>decide (0≤stockAt l.2.1 l.1.1 (i+1)))))
theorem ZQ {l:Lg}:ledB l=true↔LedP l∧∀i,i<l.2.2.toNat→0≤stockAt l.2.1 l.1.1 (i+1):=by
 simp only[ledB,Xh,Xi,ZB,Zh2];rw[List.all_eq_true];simp only[inRg,Xh,Xi,List.mem_range];constructor
 ·rintro ⟨h1,h2,h3,⟨h4,h5⟩,h6⟩;exact ⟨⟨h1,h2,h3,h4,h5⟩,h6⟩
 ·rintro ⟨⟨h1,h2,h3,h4,h5⟩,h6⟩;exact ⟨h1,h2,h3,⟨h4,h5⟩,h6⟩
structure SmL (l:Lg):Prop where
 c:SmC l.1
 p:l.2.1.length<4194304
theorem Zlq (l:Lg) (h:LedP l):(ledB l=true∧∀i,i<l.2.2.toNat→0≤stockAt l.2.1 l.1.1 (i+1))∨(ledB l=false∧∃j,j<l.2.2.toNat∧(∀i,i<j→0≤stockAt l.2.1 l.1.1 (i+1))∧stockAt l.2.1 l.1.1 (j+1)<0):=by
 rcases ZZ (fun i=>decide (0≤stockAt l.2.1 l.1.1 (i+1))) l.2.2.toNat with h1 | ⟨j,hj,hb,hat⟩
 ·have h1':∀i,i<l.2.2.toNat→0≤stockAt l.2.1 l.1.1 (i+1):=fun i hi=>by simpa using h1 i hi
  exact .inl ⟨ZQ.2 ⟨h,h1'⟩,h1'⟩
 ·have hat':stockAt l.2.1 l.1.1 (j+1)<0:=Int.not_le.1 (by simpa using hat)
  refine .inr ⟨?_,j,hj,fun i hi=>by simpa using hb i hi,hat'⟩;cases hl:ledB l with
  | false=>rfl
  | true=>have:=(ZQ.1 hl).2 j hj;omega
theorem Zni {l:Lg} (h:¬LedP l):ledB l=false:=by
 cases hl:ledB l with
 | false=>rfl
 | true=>exact absurd (ZQ.1 hl).1 h
theorem ZM {N:Nat} {l:Lg} (hs:SmL l) (hN:4194304≤N):Q32 N l=some (ledB l,()):=by
 by_cases h:LedP l
 ·have hc:=ZB.2 h.c
  have hp:=Zh2.2 h.b;have hn:=h.n;have hw:=h.now;have h8:=h.c.n;simp only[Q32,ZK hs.c hN,hc,Z9 hs.p hN,hp,Zz,Xa,Zt,Xd,ine_eq,len_eq,hn,Xf,inRg,hw.1,hw.2,Bool.and_self];obtain ⟨t,ht⟩:∃t:Nat,l.2.2=t:=⟨l.2.2.toNat,by omega⟩
  rw[ht];rw[ht] at hw;have htt:l.2.2.toNat=t:=by omega
  rcases Zlq l h with ⟨h1,h2⟩ | ⟨h1,j,hj,hb,hat⟩
  ·rw[htt] at h2
   refine Q32_L1_run N (fun _=>t) (fun i=>i) (fun _=>l) t (fun i hi kx=> ?_) (fun kx=> ?_) N (by omega)
   ·have:decide (stockAt l.2.1 l.1.1 (i+1)<0)=false:=Xb (Int.not_lt.2 (h2 i hi))
    simp [Q32_B1,hi,Zc (show i<4611686018427387904 by omega),ZF h (show i+1≤l.2.1.length by omega) hN, -Int.natCast_add,this]
   ·simp [Q32_B1,Q32_K1,h1]
  ·rw[htt] at hj
   refine Q32_L1_run N (fun _=>t) (fun i=>i) (fun _=>l) j (fun i hi kx=> ?_) (fun kx=> ?_) N (by omega)
   ·have:decide (stockAt l.2.1 l.1.1 (i+1)<0)=false:=Xb (Int.not_lt.2 (hb i hi))
    simp [Q32_B1,show i<t by omega,Zc (show i<4611686018427387904 by omega),ZF h (show i+1≤l.2.1.length by omega) hN, -Int.natCast_add,this]
   ·simp [Q32_B1,hj,Zc (show j<4611686018427387904 by omega),ZF h (show j+1≤l.2.1.length by omega) hN, -Int.natCast_add,hat,h1]
 ·rw[Zni h]
  simp only[Q32,ZK hs.c hN,Z9 hs.p hN,Zz,Xa,Zt,ine_eq,len_eq];cases hc:caseB l.1 with
  | false=>rfl
  | true=>
   by_cases hn:l.2.1.length=l.1.1.length
   ·cases hp:l.2.1.all (inRg 0 200) with
    | false=>simp [hn]
    | true=>
     cases hw:inRg 0 l.2.1.length l.2.2 with
     | false=>simp [hn]
     | true=>
      simp only[inRg,Xh,Xi] at hw;exact absurd ⟨ZB.1 hc,hn,Zh2.1 hp,by omega⟩ h
   ·have:decide ((l.2.1.length:Int)=l.1.1.length)=false:=by simp;omega
    simp [this]
theorem Zab {N:Nat} {l:Lg} (hs:SmL l) (hN:4194304≤N):Q118 N l=some (ledB l,()):=by
 by_cases h:LedP l
 ·have hc:=ZB.2 h.c
  have hp:=Zh2.2 h.b;have hn:=h.n;have hw:=h.now;have h8:=h.c.n;simp only[Q118,len_eq,ZL hs.c hN,hc,ZaG hs.p hN,hp,ZI,Xa,Zt,Xd,hn,Xf,inRg,hw.1,hw.2,Bool.and_self];obtain ⟨t,ht⟩:∃t:Nat,l.2.2=t:=⟨l.2.2.toNat,by omega⟩
  rw[ht] at hw;have htt:l.2.2.toNat=t:=by omega
  rcases Zlq l h with ⟨h1,h2⟩ | ⟨h1,j,hj,hb,hat⟩
  ·rw[htt] at h2
   refine Q118_L1_run N (fun i=>((i+1:Nat):Int)) (fun _=>l) t (fun i hi kx=> ?_) (fun kx=> ?_) N (by omega)
   ·have:=h2 i hi
    simp only[Q118_B1,ile_eq,ilt_eq,ht,show ((i+1:Nat):Int)≤t by omega,ZU h (show i+1≤l.2.1.length by omega) hN,Xa,Xf,Xd,show ¬stockAt l.2.1 l.1.1 (i+1)<0 by omega,Xg,Xe,Zc (show i+1<4611686018427387904 by omega)]
   ·simp [Q118_B1,Q118_K1,h1,ht,show ¬((t:Int)+1≤t) by omega]
  ·rw[htt] at hj
   refine Q118_L1_run N (fun i=>((i+1:Nat):Int)) (fun _=>l) j (fun i hi kx=> ?_) (fun kx=> ?_) N (by omega)
   ·have:=hb i hi
    simp only[Q118_B1,ile_eq,ilt_eq,ht,show ((i+1:Nat):Int)≤t by omega,ZU h (show i+1≤l.2.1.length by omega) hN,Xa,Xf,Xd,show ¬stockAt l.2.1 l.1.1 (i+1)<0 by omega,Xg,Xe,Zc (show i+1<4611686018427387904 by omega)]
   ·simp only[Q118_B1,ile_eq,ilt_eq,ht,show ((j+1:Nat):Int)≤t by omega,ZU h (show j+1≤l.2.1.length by omega) hN,Xa,Xf,Xd,hat,h1]
 ·rw[Zni h]
  simp only[Q118,len_eq,ZL hs.c hN,ZaG hs.p hN,ZI,Xa,Zt];cases hc:caseB l.1 with
  | false=>rfl
  | true=>
   cases hp:l.2.1.all (inRg 0 200) with
   | false=>simp
   | true=>
    by_cases hn:l.2.1.length=l.1.1.length
    ·cases hw:inRg 0 l.1.1.length l.2.2 with
     | false=>simp [hn]
     | true=>
      simp only[inRg,Xh,Xi] at hw;exact absurd ⟨ZB.1 hc,hn,Zh2.1 hp,by omega⟩ h
    ·have:decide ((l.2.1.length:Int)=l.1.1.length)=false:=by simp;omega
     simp [this]
theorem ZcZ {N:Nat} {l:Lg} (hs:SmL l) (hN:4194304≤N):Q50 N l=some (bif ledB l then (stockAt l.2.1 l.1.1 l.2.2.toNat,true) else (0,false),()):=by
 simp only[Q50,ZM hs hN,Xa,Zt];cases h:ledB l with
 | false=>rfl
 | true=>
  have hl:=(ZQ.1 h).1;have:=hl.now;have:=hl.n;rw[show l.2.2=((l.2.2.toNat:Nat):Int) by omega,Xd,ZF hl (by omega) hN];rfl
end Go.Rx.Px
namespace Go.Rx
def rsum (f:Nat→Int):Nat→Int
 | 0=>0
 | n+1=>rsum f n+f n
theorem Zbv {f:Nat→Int} {lo hi:Int}:∀ {n:Nat},(∀i,i<n→lo≤f i∧f i≤hi)→lo*n≤rsum f n∧rsum f n≤hi*n
 | 0,_=>by simp [rsum]
 | n+1,h=>by
  have h1:=Zbv (n:=n) (fun i hi=>h i (by omega))
  have h2:=h n (by omega);have e:∀x:Int,x*((n+1:Nat):Int)=x*n+x:=fun x=>by rw[Int.natCast_add,Int.mul_add];simp
  simp only[rsum,e];omega
theorem Zaa {f g:Nat→Int}:∀ {n:Nat},(∀i,i<n→f i=g i)→rsum f n=rsum g n
 | 0,_=>rfl
 | n+1,h=>by simp only[rsum];rw[Zaa (fun i hi=>h i (by omega)),h n (by omega)]
theorem ZiF (f g:Nat→Int):∀n,rsum (fun i=>f i+g i) n=rsum f n+rsum g n
 | 0=>rfl
 | n+1=>by simp only[rsum,ZiF f g n];omega
theorem Zcw (f:Nat→Int) (a:Nat):∀b,rsum f (a+b)=rsum f a+rsum (fun i=>f (a+i)) b
 | 0=>by simp [rsum]
 | b+1=>by rw[←Nat.add_assoc];simp only[rsum,Zcw f a b];omega
theorem Zb8 {a b A B:Int} (ha:0≤a∧a≤A) (hb: -B≤b∧b≤B): -(A*B)≤a*b∧a*b≤A*B:=by
 have hB:0≤B:=by omega
 have h1:a*b≤a*B:=Int.mul_le_mul_of_nonneg_left hb.2 ha.1;have h2:a*(-B)≤a*b:=Int.mul_le_mul_of_nonneg_left hb.1 ha.1;have h3:a*B≤A*B:=Int.mul_le_mul_of_nonneg_right ha.2 hB;rw[Int.mul_neg] at h2;omega
theorem Zbq {α:Type} (f:Nat→α) (d:α) {n i:Nat} (h:i<n):gd ((List.range n).map f) i d=f i:=by
 simp [gd,List.getD_eq_getElem?_getD,h]
theorem map_range_succ {α:Type} (f:Nat→α) (n:Nat):(List.range (n+1)).map f=(List.range n).map f++[f n]:=by simp [List.range_succ]
theorem Zbz {p:Nat→Bool} {n:Nat}:(List.range n).all p=true↔∀i,i<n→p i=true:=by simp
end Go.Rx
namespace Go.Rx.Px
def ifpos (p s:Int):Int:=if 0<p then s else 0
theorem ZiG {p s b:Int} (h:0≤s∧s≤b):0≤ifpos p s∧ifpos p s≤b:=by unfold ifpos;split<;>omega
def pcost (c:Cs) (plan:List Int) (t:Nat):Int:=ifpos (gd plan t 0) (gd c.2.1 t 0)+gd c.2.2.1 t 0*gd plan t 0+gd c.2.2.2 t 0*stockAt plan c.1 (t+1)
theorem ZbN {l:Lg} (h:LedP l) {t:Nat} (ht:t≤l.2.1.length): -1600≤stockAt l.2.1 l.1.1 t∧stockAt l.2.1 l.1.1 t≤1600:=by
 have:=Zgc h ht;simp only[stockAt];omega
structure CellBd (c:Cs) (plan:List Int) (t:Nat):Prop where
 s:0≤gd c.2.1 t 0∧gd c.2.1 t 0≤99
 u:0≤gd c.2.2.1 t 0∧gd c.2.2.1 t 0≤9
 h:0≤gd c.2.2.2 t 0∧gd c.2.2.2 t 0≤9
 p:0≤gd plan t 0∧gd plan t 0≤200
 up:0≤gd c.2.2.1 t 0*gd plan t 0∧gd c.2.2.1 t 0*gd plan t 0≤1800
theorem ZfG {c:Cs} {plan:List Int} (h:CaseP c) (hp:bd 200 plan) {t:Nat} (ht:t<c.1.length) (hl:t<plan.length):CellBd c plan t:=by
 have h1:=h.b1 t (by have:=h.l1;omega)
 have h2:=h.b2 t (by have:=h.l2;omega)
 have h3:=h.b3 t (by have:=h.l3;omega)
 have h4:=hp t hl;refine ⟨h1,h2,h3,h4,Int.mul_nonneg h2.1 h4.1, ?_⟩;have:=(Zb8 (A:=9) (B:=200) h2 (show -200≤gd plan t 0∧gd plan t 0≤200 by omega)).2;omega
theorem Zgd {l:Lg} (h:LedP l) {t:Nat} (ht:t<l.2.1.length): -20000≤pcost l.1 l.2.1 t∧pcost l.1 l.2.1 t≤20000:=by
 have:=h.n;have hb:=ZfG h.c h.b (show t<l.1.1.length by omega) ht;have h2:=Zb8 hb.h (ZbN h (show t+1≤l.2.1.length by omega));have h3:=ZiG (p:=gd l.2.1 t 0) hb.s;have:=hb.up;simp only[pcost];omega
theorem ZbX {N:Nat} {l:Lg} (h:LedP l) {a b:Nat} (hb:b≤l.2.1.length) (hN:4194304≤N):Q36 N l a b=some (rsum (fun k=>pcost l.1 l.2.1 (a+k)) (b - a),()):=by
 have hn:=h.n;have h8:=h.c.n;refine Q36_L1_run N (fun _=>b) (rsum fun k=>pcost l.1 l.2.1 (a+k)) (fun i=>((a+i:Nat):Int)) (fun _=>l) (b - a) (fun i hi kx=> ?_) (fun kx=> ?_) N (by omega)
 ·have hlt:a+i<l.2.1.length:=by omega
  have hS:=Zbv (f:=fun k=>pcost l.1 l.2.1 (a+k)) (n:=i) (lo:= -20000) (hi:=20000) (fun k hk=>Zgd h (by omega))
  have hc:=ZfG h.c h.b (show a+i<l.1.1.length by omega) hlt;have hs:=Zb8 hc.h (ZbN h (show a+i+1≤l.2.1.length by omega));have hup:=hc.up;have hsu:=hc.s;have hP:=h.c.l1;have hQ:=h.c.l2;have hR:=h.c.l3
  simp only[Q36_B1,Q36_K1,ilt_eq,Xk,show a+i<b by omega,Xf,Xd,Zb hlt,Zb (show a+i<l.1.2.1.length by omega),Zb (show a+i<l.1.2.2.1.length by omega),Zb (show a+i<l.1.2.2.2.length by omega),chk_true',Xj,
   Zc (show a+i<4611686018427387904 by omega),ZF h (show a+i+1≤l.2.1.length by omega) hN,Xa,ZV (show -9223372036854775808≤gd l.1.2.2.1 (a+i) 0*gd l.2.1 (a+i) 0 by omega) (by omega),
   ZV (show -9223372036854775808≤gd l.1.2.2.2 (a+i) 0*stockAt l.2.1 l.1.1 (a+i+1) by omega) (by omega)]
  rw[Zh (a:=gd l.1.2.2.1 (a+i) 0*gd l.2.1 (a+i) 0) (by omega) (by omega)];simp only[rsum,pcost,ifpos] at*;by_cases hp:0<gd l.2.1 (a+i) 0
  ·simp only[hp,Xf,Xd,if_true]
   rw[Zh (a:=rsum _ i) (by omega) (by omega),Zh (by omega) (by omega)]
   congr 1;omega
  ·simp only[hp,Xg,Xe,if_false]
   rw[Zh (by omega) (by omega)]
   congr 1;omega
 ·simp only[Q36_B1,Q36_K2,ilt_eq,Xk,show ¬a+(b - a)<b by omega,Xg,Xe]
theorem Zdk {N:Nat} {l:Lg} (h:LedP l) {a b:Nat} (hb:b≤l.2.1.length) (hN:4194304≤N):Q112 N l a b=some (rsum (fun k=>pcost l.1 l.2.1 (a+k)) (b - a),()):=by
 have hn:=h.n;have h8:=h.c.n;refine Q112_L1_run N (fun _=>b) (rsum fun k=>pcost l.1 l.2.1 (a+k)) (fun i=>((a+i:Nat):Int)) (fun _=>l) (b - a) (fun i hi kx=> ?_) (fun kx=> ?_) N (by omega)
 ·have hlt:a+i<l.2.1.length:=by omega
  have hS:=Zbv (f:=fun k=>pcost l.1 l.2.1 (a+k)) (n:=i) (lo:= -20000) (hi:=20000) (fun k hk=>Zgd h (by omega))
  have hc:=ZfG h.c h.b (show a+i<l.1.1.length by omega) hlt;have hs:=Zb8 hc.h (ZbN h (show a+i+1≤l.2.1.length by omega));have hup:=hc.up;have hsu:=hc.s;have hP:=h.c.l1;have hQ:=h.c.l2;have hR:=h.c.l3
  simp only[Q112_B1,ilt_eq,Xk,show a+i<b by omega,Xf,Xd,Zb hlt,Zb (show a+i<l.1.2.1.length by omega),Zb (show a+i<l.1.2.2.1.length by omega),Zb (show a+i<l.1.2.2.2.length by omega),chk_true',Xj,
   Zc (show a+i<4611686018427387904 by omega),ZU h (show a+i+1≤l.2.1.length by omega) hN,Xa,ZV (show -9223372036854775808≤gd l.1.2.2.1 (a+i) 0*gd l.2.1 (a+i) 0 by omega) (by omega),
   ZV (show -9223372036854775808≤gd l.1.2.2.2 (a+i) 0*stockAt l.2.1 l.1.1 (a+i+1) by omega) (by omega)]
  simp only[rsum,pcost,ifpos] at*;by_cases hp:0<gd l.2.1 (a+i) 0
  ·simp only[hp,Xf,Xd,if_true]
   rw[Zh (a:=rsum _ i) (by omega) (by omega),Zh (a:=rsum _ i+_) (by omega) (by omega),Zh (by omega) (by omega)]
   congr 1;omega
  ·simp only[hp,Xg,Xe,if_false]
   rw[Zh (a:=rsum _ i) (by omega) (by omega),Zh (by omega) (by omega)]
   congr 1;omega
 ·simp only[Q112_B1,Q112_K1,ilt_eq,Xk,show ¬a+(b - a)<b by omega,Xg,Xe]
theorem ZgP {N:Nat} {l:Lg} (hs:SmL l) (hN:4194304≤N):Q24 N l=some (bif ledB l then (rsum (fun k=>pcost l.1 l.2.1 (0+k)) (l.2.2.toNat - 0),true) else (0,false),()):=by
 simp only[Q24,ZM hs hN,Xa,Zt];cases h:ledB l with
 | false=>rfl
 | true=>
  have hl:=(ZQ.1 h).1;have:=hl.now;have:=hl.n;have e:=ZbX hl (a:=0) (b:=l.2.2.toNat) (by omega) hN;rw[show ((l.2.2.toNat:Nat):Int)=l.2.2 by omega] at e;rw[Xd,show (0:Int)=((0:Nat):Int) from rfl,e];rfl
structure PlanP (c:Cs) (plan:List Int):Prop where
 cs:CaseP c
 n:plan.length=c.1.length
 b:bd 160 plan
theorem PlanP.b200 {c:Cs} {plan:List Int} (h:PlanP c plan):bd 200 plan:=fun i hi=>by have:=h.b i hi;omega
theorem PlanP.st {c:Cs} {plan:List Int} (h:PlanP c plan) {t:Nat} (ht:t≤plan.length): -1600≤stockAt plan c.1 t∧stockAt plan c.1 t≤1600:=by
 have h1:=ZbW h.b200 t ht;have h2:=ZbW h.cs.b0 t (by have:=h.n;omega)
 have h3:=h.cs.n;have h4:=h.n;simp only[stockAt];omega
def stocksL (plan need:List Int) (n:Nat):List Int:=(List.range n).map fun i=>stockAt plan need (i+1)
theorem ZgQ (plan need:List Int) (n:Nat):(stocksL plan need n).length=n:=by simp [stocksL]
theorem Zmj (plan need:List Int) {n i:Nat} (h:i<n):gd (stocksL plan need n) i 0=stockAt plan need (i+1):=Zbq _ _ h
theorem stocksL_succ (plan need:List Int) (n:Nat):stocksL plan need (n+1)=stocksL plan need n++[stockAt plan need (n+1)]:=map_range_succ _ _
theorem ZjQ (plan need:List Int):stockAt plan need 0=0:=by simp [stockAt,ZeH]
theorem stockAt_succ {plan need:List Int} {i:Nat} (h:i<plan.length) (h2:i<need.length):stockAt plan need (i+1)=stockAt plan need i+(gd plan i 0 - gd need i 0):=by
 simp only[stockAt,psum_succ h,psum_succ h2];omega
theorem ZkD (a b:List Int):decide ((a.length:Int)=b.length)=decide (a.length=b.length):=by rw[decide_eq_decide];omega
theorem ZfR {N:Nat} {c:Cs} {plan:List Int} (hp:PlanP c plan) (hN:4194304≤N):Q157 N c plan=some (stocksL plan c.1 plan.length,()):=by
 have h8:=hp.cs.n;have hl:=hp.n;refine Q157_L1_run N (fun _=>plan) (stockAt plan c.1) (fun i=>i) (fun _=>c) (stocksL plan c.1) plan.length (fun i hi kx=> ?_) (fun kx=> ?_) N (by omega)
 ·have hb:=hp.b i hi
  have hd:=hp.cs.b0 i (by omega);have h1:=hp.st (t:=i) (by omega);simp only[Q157_B1,ilt_eq,len_eq,Xk,hi,Xf,Xd,Zb hi,Zb (show i<c.1.length by omega),chk_true',Xj,Zc (show i<4611686018427387904 by omega)];rw[Zh (by omega) (by omega),Zv (by omega) (by omega),Zf (Zn (by rw[ZgQ];omega) (by omega)),stocksL_succ,stockAt_succ hi (show i<c.1.length by omega),Int.add_sub_assoc]
 ·simp only[Q157_B1,Q157_K1,ilt_eq,len_eq,Xn,Xg,Xe]
def fSet (c:Cs) (plan:List Int) (t:Nat):Int:=ifpos (gd plan t 0) (gd c.2.1 t 0)
def fUnit (c:Cs) (plan:List Int) (t:Nat):Int:=gd c.2.2.1 t 0*gd plan t 0
def fHold (c:Cs) (plan:List Int) (t:Nat):Int:=gd c.2.2.2 t 0*stockAt plan c.1 (t+1)
theorem ZgR {c:Cs} {plan:List Int} (h:PlanP c plan):∀i,i≤plan.length→ -20000*i≤rsum (fSet c plan) i∧rsum (fSet c plan) i≤20000*i:=fun i hi=>Zbv fun k hk=>by
 have hn:=h.n;have:=ZiG (p:=gd plan k 0) (ZfG h.cs h.b200 (show k<c.1.length by omega) (by omega)).s;simp only[fSet];omega
theorem ZeI {c:Cs} {plan:List Int} (h:PlanP c plan):∀i,i≤plan.length→ -20000*i≤rsum (fUnit c plan) i∧rsum (fUnit c plan) i≤20000*i:=fun i hi=>Zbv fun k hk=>by
 have hn:=h.n;have:=(ZfG h.cs h.b200 (show k<c.1.length by omega) (by omega)).up;simp only[fUnit];omega
theorem ZgS {c:Cs} {plan:List Int} (h:PlanP c plan) {k:Nat} (hk:k<plan.length): -20000≤fHold c plan k∧fHold c plan k≤20000:=by
 have hn:=h.n;have:=Zb8 (ZfG h.cs h.b200 (show k<c.1.length by omega) hk).h (h.st (show k+1≤plan.length by omega));simp only[fHold];omega
theorem ZeJ {c:Cs} {plan:List Int} (h:PlanP c plan):∀i,i≤plan.length→ -20000*i≤rsum (fHold c plan) i∧rsum (fHold c plan) i≤20000*i:=fun i hi=>Zbv fun k hk=>ZgS h (by omega)
theorem ZeK {N:Nat} {c:Cs} {plan:List Int} (h:PlanP c plan) (hN:4194304≤N):Q19 N c plan=some ((rsum (fSet c plan) plan.length,rsum (fUnit c plan) plan.length,rsum (fHold c plan) plan.length),()):=by
 have h8:=h.cs.n;have hl:=h.n;refine Q19_L1_run N (rsum (fSet c plan)) (rsum (fUnit c plan)) (rsum (fHold c plan)) (stockAt plan c.1) (fun _=>plan) (fun _=>plan.length) (fun i=>i) (fun _=>c) plan.length (fun i hi kx=> ?_) (fun kx=> ?_) N (by omega)
 ·have hc:=ZfG h.cs h.b200 (show i<c.1.length by omega) hi
  have hup:=hc.up;have hsu:=hc.s;have hpp:=hc.p;have hd:=h.cs.b0 i (by omega);have h1:=h.st (t:=i) (by omega);have h2:=ZgS h hi;have b1:=ZgR h i (by omega);have b2:=ZeI h i (by omega);have b3:=ZeJ h i (by omega);have hP:=h.cs.l1;have hQ:=h.cs.l2;have hR:=h.cs.l3;simp only[Q19_B1,Q19_K1,ilt_eq,Xk,hi,Xf,Xd,Zb hi,Zb (show i<c.1.length by omega),Zb (show i<c.2.1.length by omega),Zb (show i<c.2.2.1.length by omega),Zb (show i<c.2.2.2.length by omega),chk_true',Xj,Zc (show i<4611686018427387904 by omega)];rw[Zv (by omega) (by omega),Zh (a:=stockAt plan c.1 i) (by omega) (by omega),←stockAt_succ hi (show i<c.1.length by omega),ZV (a:=gd c.2.2.1 i 0) (by omega) (by omega),ZV (a:=gd c.2.2.2 i 0) (by simp only[fHold] at h2;omega) (by simp only[fHold] at h2;omega)]
  have e2:gd c.2.2.1 i 0*gd plan i 0=fUnit c plan i:=rfl;have e3:gd c.2.2.2 i 0*stockAt plan c.1 (i+1)=fHold c plan i:=rfl;rw[e2] at hup;simp only[e2,e3];rw[Zh (a:=rsum (fUnit c plan) i) (by omega) (by omega),Zh (a:=rsum (fHold c plan) i) (by omega) (by omega)];by_cases hp:0<gd plan i 0
  ·simp only[hp,Xf,Xd,rsum,fSet,ifpos,if_true] at*
   rw[Zh (by omega) (by omega)]
  ·simp only[hp,Xg,Xe,rsum,fSet,ifpos,if_false,Int.add_zero]
 ·simp only[Q19_B1,Q19_K2,ilt_eq,Xn,Xg,Xe]
def costOf (c:Cs) (plan:List Int):Int:=rsum (fSet c plan) plan.length+rsum (fUnit c plan) plan.length+rsum (fHold c plan) plan.length
theorem Zcx {N:Nat} {c:Cs} {plan:List Int} (h:PlanP c plan) (hN:4194304≤N):Q13 N c plan=some (costOf c plan,()):=by
 have b1:=ZgR h _ (Xl _);have b2:=ZeI h _ (Xl _);have b3:=ZeJ h _ (Xl _);have h8:=h.cs.n;have hl:=h.n;simp only[Q13,ZeK h hN,Xa,costOf];rw[Zh (a:=rsum (fSet c plan) plan.length) (by omega) (by omega),Zh (by omega) (by omega)]
theorem ZgT {N:Nat} {c:Cs} {plan:List Int} (h:PlanP c plan) (hN:4194304≤N):Q155 N c plan=some ([rsum (fSet c plan) plan.length,rsum (fUnit c plan) plan.length,rsum (fHold c plan) plan.length],()):=by
 have h8:=h.cs.n;have hl:=h.n;have hlen:=ZgQ plan c.1 plan.length;simp only[Q155,ZfR h hN,Xa];refine Q155_L1_run N (fun _=>plan) (fun i=>i) (fun _=>c) (fun _=>List.replicate 3 0) (fun i=>[rsum (fSet c plan) i,rsum (fUnit c plan) i,rsum (fHold c plan) i]) (fun _=>stocksL plan c.1 plan.length) plan.length (fun i hi kx=> ?_) (fun kx=> ?_) N (by omega)
 ·have hc:=ZfG h.cs h.b200 (show i<c.1.length by omega) hi
  have hup:=hc.up;have hsu:=hc.s;have h2:=ZgS h hi;have b1:=ZgR h i (by omega);have b2:=ZeI h i (by omega);have b3:=ZeJ h i (by omega);have hP:=h.cs.l1;have hQ:=h.cs.l2;have hR:=h.cs.l3;have i0:inB 0 3=true:=rfl;have i1:inB 1 3=true:=rfl;have i2:inB 2 3=true:=rfl;have g0:∀a b c:Int,gd [a,b,c] 0 0=a:=fun _ _ _=>rfl
  have g1:∀a b c:Int,gd [a,b,c] 1 0=b:=fun _ _ _=>rfl
  have g2:∀a b c:Int,gd [a,b,c] 2 0=c:=fun _ _ _=>rfl
  have s0:∀a b c v:Int,List.set [a,b,c] 0 v=[v,b,c]:=fun _ _ _ _=>rfl
  have s1:∀a b c v:Int,List.set [a,b,c] 1 v=[a,v,c]:=fun _ _ _ _=>rfl
  have s2:∀a b c v:Int,List.set [a,b,c] 2 v=[a,b,v]:=fun _ _ _ _=>rfl
  simp only[Q155_B1,Q155_K1,ilt_eq,len_eq,Xk,hi,Xf,Xd,Zb hi,Zb (show i<c.2.1.length by omega),Zb (show i<c.2.2.1.length by omega),Zb (show i<c.2.2.2.length by omega),hlen,chk_true',Xj,Zc (show i<4611686018427387904 by omega),i0,i1,i2,g0,g1,g2,s0,s1,s2,Zmj _ _ hi];rw[ZV (a:=gd c.2.2.1 i 0) (by omega) (by omega),ZV (a:=gd c.2.2.2 i 0) (by simp only[fHold] at h2;omega) (by simp only[fHold] at h2;omega)]
  have e2:gd c.2.2.1 i 0*gd plan i 0=fUnit c plan i:=rfl;have e3:gd c.2.2.2 i 0*stockAt plan c.1 (i+1)=fHold c plan i:=rfl;rw[e2] at hup;simp only[e2,e3];rw[Zh (a:=rsum (fUnit c plan) i) (by omega) (by omega),Zh (a:=rsum (fHold c plan) i) (by omega) (by omega)];by_cases hp:0<gd plan i 0
  ·simp only[hp,Xf,Xd,rsum,fSet,ifpos,if_true] at*
   rw[Zh (by omega) (by omega)]
  ·simp only[hp,Xg,Xe,rsum,fSet,ifpos,if_false,Int.add_zero]
 ·simp only[Q155_B1,Q155_K2,ilt_eq,len_eq,Xn,Xg,Xe]
theorem Zch {N:Nat} {c:Cs} {plan:List Int} (h:PlanP c plan) (hN:4194304≤N):Q150 N c plan=some (costOf c plan,()):=by
 have b1:=ZgR h _ (Xl _);have b2:=ZeI h _ (Xl _);have b3:=ZeJ h _ (Xl _);have h8:=h.cs.n;have hl:=h.n;have i0:inB 0 3=true:=rfl;have i1:inB 1 3=true:=rfl;have i2:inB 2 3=true:=rfl;have g0:∀a b c:Int,gd [a,b,c] 0 0=a:=fun _ _ _=>rfl
 have g1:∀a b c:Int,gd [a,b,c] 1 0=b:=fun _ _ _=>rfl
 have g2:∀a b c:Int,gd [a,b,c] 2 0=c:=fun _ _ _=>rfl
 simp only[Q150,ZgT h hN,Xa,costOf,i0,i1,i2,chk_true',g0,g1,g2];rw[Zh (a:=rsum (fSet c plan) plan.length) (by omega) (by omega),Zh (by omega) (by omega)]
end Go.Rx.Px
namespace Go.Rx
theorem range_filter_succ (p:Nat→Bool) (i:Nat):(List.range (i+1)).filter p=(List.range i).filter p++(if p i then [i] else []):=by
 rw[List.range_succ,List.filter_append];congr 1;simp [List.filter_cons]
theorem Zea {xs:List Int} {i t:Nat} (h:i≤t):(cut xs i t).sum=psum xs t - psum xs i:=by
 simp only[cut,Xj,psum];have e:(xs.take t).sum=((xs.take t).take i).sum+((xs.take t).drop i).sum:=by rw[←List.sum_append,List.take_append_drop]
 rw[List.take_take,Nat.min_eq_left h] at e;omega
theorem Zal {α:Type} (xs:List α) {i t:Nat} (h:t≤xs.length):(cut xs i t).length=t - i:=by simp [cut];omega
theorem Znj {α:Type} (xs:List α) {i t k:Nat} (d:α) (h:i+k<t):gd (cut xs i t) k d=gd xs (i+k) d:=by
 simp [cut,gd,List.getD_eq_getElem?_getD,List.getElem?_drop,h]
theorem Zdl {b:Int} {xs:List Int} (h:bd b xs) {i t:Nat} (ht:t≤xs.length):bd b (cut xs i t):=fun k hk=>by
 rw[Zal xs ht] at hk;rw[Znj xs 0 (by omega)];exact h _ (by omega)
end Go.Rx
namespace Go.Rx.Px
def shortsTo (l:Lg) (a i:Nat):List Int:=((List.range i).filter fun k=>decide (stockAt l.2.1 l.1.1 (a+k+1)<0)).map fun k=>((a+k:Nat):Int)
theorem Zb9 (l:Lg) (a i:Nat):(shortsTo l a i).length≤i:=by
 simp only[shortsTo,List.length_map];exact Nat.le_trans (List.length_filter_le _ _) (by simp)
theorem shortsTo_succ (l:Lg) (a i:Nat):shortsTo l a (i+1)=shortsTo l a i++(if stockAt l.2.1 l.1.1 (a+i+1)<0 then [((a+i:Nat):Int)] else []):=by
 simp only[shortsTo,range_filter_succ,List.map_append]
 congr 1
 by_cases h:stockAt l.2.1 l.1.1 (a+i+1)<0<;>simp [h]
theorem ZbA {N:Nat} {l:Lg} (h:LedP l) (hN:4194304≤N):Q39 N l=some (shortsTo l l.2.2.toNat (l.2.1.length - l.2.2.toNat),()):=by
 have hn:=h.n;have h8:=h.c.n;have hw:=h.now;obtain ⟨a,ha⟩:∃a:Nat,l.2.2=a:=⟨l.2.2.toNat,by omega⟩
 simp only[Q39,ha,Xj];rw[ha] at hw;refine Q39_L1_run N (fun i=>((a+i:Nat):Int)) (fun _=>l) (shortsTo l a) (l.2.1.length - a) (fun i hi kx=> ?_) (fun kx=> ?_) N (by omega)
 ·have hl:=Zb9 l a i
  simp only[Q39_B1,ilt_eq,len_eq,Xk,show a+i<l.2.1.length by omega,Xf,Xd,Zc (show a+i<4611686018427387904 by omega),ZF h (show a+i+1≤l.2.1.length by omega) hN,Xa,shortsTo_succ,Zf (Zn (n:=(shortsTo l a i).length+1) (b:=8) (by omega) (by omega))];by_cases hs:stockAt l.2.1 l.1.1 (a+i+1)<0
  ·simp only[hs,Xf,Xd,if_true];rfl
  ·simp only[hs,Xg,Xe,if_false,List.append_nil];rfl
 ·simp only[Q39_B1,Q39_K1,ilt_eq,len_eq,Xk,show ¬a+(l.2.1.length - a)<l.2.1.length by omega,Xg,Xe]
theorem Zbw {N:Nat} {l:Lg} (h:LedP l) (hN:4194304≤N):Q132 N l=some (shortsTo l l.2.2.toNat (l.2.1.length - l.2.2.toNat),()):=by
 have hn:=h.n;have h8:=h.c.n;have hw:=h.now;obtain ⟨a,ha⟩:∃a:Nat,l.2.2=a:=⟨l.2.2.toNat,by omega⟩
 simp only[Q132,ha,Xj];rw[ha] at hw;refine Q132_L1_run N (fun i=>((a+i:Nat):Int)) (fun _=>l) (shortsTo l a) (l.2.1.length - a) (fun i hi kx=> ?_) (fun kx=> ?_) N (by omega)
 ·have hl:=Zb9 l a i
  simp only[Q132_B1,ilt_eq,len_eq,Xk,show a+i<l.2.1.length by omega,Xf,Xd,Zc (show a+i<4611686018427387904 by omega),ZU h (show a+i+1≤l.2.1.length by omega) hN,Xa,shortsTo_succ,Zf (Zn (n:=(shortsTo l a i).length+1) (b:=8) (by omega) (by omega))];by_cases hs:stockAt l.2.1 l.1.1 (a+i+1)<0
  ·simp only[hs,Xf,Xd,if_true];rfl
  ·simp only[hs,Xg,Xe,if_false,List.append_nil];rfl
 ·simp only[Q132_B1,Q132_K1,ilt_eq,len_eq,Xk,show ¬a+(l.2.1.length - a)<l.2.1.length by omega,Xg,Xe]
def shortsL (l:Lg):List Int:=shortsTo l l.2.2.toNat (l.2.1.length - l.2.2.toNat)
def aheadOf (l:Lg):Int×Bool:=bif ledB l then (bif ilt 0 (len (shortsL l)) then (0,false) else (rsum (fun k=>pcost l.1 l.2.1 (l.2.2.toNat+k)) (l.2.1.length - l.2.2.toNat),true)) else (0,false)
theorem Zfm {N:Nat} {l:Lg} (hs:SmL l) (hN:4194304≤N):Q95 N l=some (aheadOf l,()):=by
 simp only[Q95,aheadOf,Zab hs hN,Xa,Zt];cases h:ledB l with
 | false=>rfl
 | true=>
  have hl:=(ZQ.1 h).1;have hw:=hl.now;have e:=Zdk hl (a:=l.2.2.toNat) (b:=l.2.1.length) (Xl _) hN;rw[show ((l.2.2.toNat:Nat):Int)=l.2.2 by omega] at e;rw[←len_eq] at e;simp only[Xd,Zbw hl hN,Xa,e,shortsL];cases ilt 0 (len (shortsTo l l.2.2.toNat (l.2.1.length - l.2.2.toNat)))<;>rfl
theorem Zfn {N:Nat} {l:Lg} (hs:SmL l) (hN:4194304≤N):Q23 N l=some (aheadOf l,()):=by
 simp only[Q23,aheadOf,ZM hs hN,Xa,Zt];cases h:ledB l with
 | false=>rfl
 | true=>
  have hl:=(ZQ.1 h).1;have hw:=hl.now;have e:=ZbX hl (a:=l.2.2.toNat) (b:=l.2.1.length) (Xl _) hN;rw[show ((l.2.2.toNat:Nat):Int)=l.2.2 by omega] at e;rw[←len_eq] at e;simp only[Xd,ZbA hl hN,Xa,e,shortsL];cases ilt 0 (len (shortsTo l l.2.2.toNat (l.2.1.length - l.2.2.toNat)))<;>rfl
def rateOf (c:Cs) (i t:Nat):Int:=gd c.2.2.1 i 0+(psum c.2.2.2 t - psum c.2.2.2 i)
theorem Zci {c:Cs} (h:CaseP c) {i t:Nat} (hi:i<c.1.length) (hit:i≤t) (ht:t≤c.1.length):0≤rateOf c i t∧rateOf c i t≤81:=by
 have h1:=h.b2 i (by have:=h.l2;omega)
 have h2:=ZbW h.b3 t (by have:=h.l3;omega)
 have h3:=ZbW h.b3 i (by have:=h.l3;omega)
 have h4:=Zcv h.b3 hit (by have:=h.l3;omega)
 have h8:=h.n;simp only[rateOf];omega
theorem ZaI {N:Nat} {c:Cs} (h:CaseP c) {i t:Nat} (hi:i<c.1.length) (hit:i≤t) (ht:t≤c.1.length) (hN:4194304≤N):Q21 N c i t=some (rateOf c i t,()):=by
 have hr:=Zci h hi hit ht;have h2:=h.l2;have h3:=h.l3;have h8:=h.n
 simp only[Q21,Zf (Zb (show i<c.2.2.1.length by omega)),Zf (ZA (show (0:Int)≤i by omega) (show (i:Int)≤t by omega) (show (t:Int)≤c.2.2.2.length by omega)),Xj,
  ZaH (Zdl (i:=i) (t:=t) h.b3 (show t≤c.2.2.2.length by omega)) (by omega) (by rw[Zal (i:=i) (t:=t) _ (by omega)];omega) hN,Xa,Zea hit]
 simp only[rateOf] at hr;rw[Zh (by omega) (by omega)];rfl
theorem Zbm {N:Nat} {c:Cs} (h:CaseP c) {i t:Nat} (hi:i<c.1.length) (hit:i≤t) (ht:t≤c.1.length) (hN:4194304≤N):Q165 N c i t=some (rateOf c i t,()):=by
 have h2:=h.l2;have h3:=h.l3;have h8:=h.n;have e0:gd c.2.2.1 i 0=rateOf c i i:=by simp only[rateOf];omega
 simp only[Q165,Zf (Zb (show i<c.2.2.1.length by omega)),Xj,e0];refine (Q165_L1_run N (fun _=>t) (fun k=>rateOf c i (i+k)) (fun k=>((i+k:Nat):Int)) (fun _=>c) (t - i) (fun k hk kx=> ?_) (fun kx=> ?_) N (by omega))
 ·have hr:=Zci h hi (show i≤i+k by omega) (by omega)
  have h1:=h.b3 (i+k) (by omega);simp only[Q165_B1,ilt_eq,Xk,show i+k<t by omega,Xf,Xd,Zb (show i+k<c.2.2.2.length by omega),chk_true',Xj,Zc (show i+k<4611686018427387904 by omega)];rw[Zh (by omega) (by omega)];simp only[rateOf,←Nat.add_assoc,psum_succ (show i+k<c.2.2.2.length by omega)]
  congr 1;omega
 ·simp only[Q165_B1,Q165_K1,ilt_eq,Xk,show i+(t - i)=t by omega,Nat.lt_irrefl,Xg,Xe]
def mx0 (z:Int):Int:=if z>0 then z else 0
def claimT (c:Cs) (prices:List Int) (i t:Nat):Int:=mx0 (gd prices t 0 - gd c.1 t 0*rateOf c i t)
def claimOf (c:Cs) (prices:List Int) (i:Nat):Int:=rsum (fun k=>claimT c prices i (i+k)) (prices.length - i)
theorem Zho (N:Nat) (z:Int):Q139 N 0 z=some (mx0 z,()):=by
 simp only[Q139,ilt_eq,mx0];by_cases h:z<0
 ·simp [h,show ¬z>0 by omega]
 ·by_cases h2:z>0
  ·simp [h,h2]
  ·simp [h,h2];omega
structure PrP (c:Cs) (prices:List Int):Prop where
 cs:CaseP c
 n:prices.length≤c.1.length
 b:bd 9999 prices
theorem Zge {c:Cs} {prices:List Int} (h:PrP c prices) {i t:Nat} (hit:i≤t) (ht:t<prices.length):(0≤gd c.1 t 0*rateOf c i t∧gd c.1 t 0*rateOf c i t≤1620)∧0≤claimT c prices i t∧claimT c prices i t≤9999:=by
 have hn:=h.n;have h1:=h.cs.b0 t (by omega);have h2:=Zci h.cs (i:=i) (t:=t) (by omega) hit (by omega);have h3:=Zb8 (B:=81) h1 (show -81≤rateOf c i t∧rateOf c i t≤81 by omega);have h4:=Int.mul_nonneg h1.1 h2.1;have h5:=h.b t ht;refine ⟨by omega, ?_⟩;simp only[claimT,mx0];split<;>omega
theorem ZeL {N:Nat} {c:Cs} {prices:List Int} (h:PrP c prices) {i:Nat} (hi:i<c.1.length) (hN:4194304≤N):Q12 N c i prices=some (claimOf c prices i,()):=by
 have hn:=h.n;have h8:=h.cs.n;refine Q12_L1_run N (fun _=>i) (fun _=>prices) (rsum fun k=>claimT c prices i (i+k)) (fun k=>((i+k:Nat):Int)) (fun _=>c) (prices.length - i) (fun k hk kx=> ?_) (fun kx=> ?_) N (by omega)
 ·have hb:=Zge h (show i≤i+k by omega) (by omega)
  have hS:=Zbv (f:=fun k=>claimT c prices i (i+k)) (n:=k) (lo:=0) (hi:=9999) (fun j hj=>(Zge h (show i≤i+j by omega) (by omega)).2)
  have hp:=h.b (i+k) (by omega)
  simp only[Q12_B1,ilt_eq,len_eq,Xk,show i+k<prices.length by omega,Xf,Xd,Zb (show i+k<prices.length by omega),Zb (show i+k<c.1.length by omega),chk_true',Xj,Zc (show i+k<4611686018427387904 by omega),
   ZaI h.cs hi (show i≤i+k by omega) (show i+k≤c.1.length by omega) hN,Xa]
  rw[ZV (by omega) (by omega),Zv (by omega) (by omega)];have e:imax 0 (gd prices (i+k) 0 - gd c.1 (i+k) 0*rateOf c i (i+k))=claimT c prices i (i+k):=rfl;rw[e,Zh (by omega) (by omega)];rfl
 ·simp only[Q12_B1,Q12_K1,ilt_eq,len_eq,Xk,show ¬i+(prices.length - i)<prices.length by omega,Xg,Xe,claimOf]
theorem ZgU {N:Nat} {c:Cs} {prices:List Int} (h:PrP c prices) {i:Nat} (hi:i<c.1.length) (hN:4194304≤N):Q162 N c prices i=some (claimOf c prices i,()):=by
 have hn:=h.n;have h8:=h.cs.n;refine Q162_L1_run N (fun _=>prices) (fun _=>i) (rsum fun k=>claimT c prices i (i+k)) (fun k=>((i+k:Nat):Int)) (fun _=>c) (prices.length - i) (fun k hk kx=> ?_) (fun kx=> ?_) N (by omega)
 ·have hb:=Zge h (show i≤i+k by omega) (by omega)
  have hS:=Zbv (f:=fun k=>claimT c prices i (i+k)) (n:=k) (lo:=0) (hi:=9999) (fun j hj=>(Zge h (show i≤i+j by omega) (by omega)).2)
  have hp:=h.b (i+k) (by omega)
  simp only[Q162_B1,ilt_eq,len_eq,Xk,show i+k<prices.length by omega,Xf,Xd,Zb (show i+k<prices.length by omega),Zb (show i+k<c.1.length by omega),chk_true',Xj,Zc (show i+k<4611686018427387904 by omega),
   Zbm h.cs hi (show i≤i+k by omega) (show i+k≤c.1.length by omega) hN,Xa]
  rw[ZV (by omega) (by omega),Zv (by omega) (by omega),Zho];have e:mx0 (gd prices (i+k) 0 - gd c.1 (i+k) 0*rateOf c i (i+k))=claimT c prices i (i+k):=rfl;simp only[Xa,e];rw[Zh (by omega) (by omega)];rfl
 ·simp only[Q162_B1,Q162_K1,ilt_eq,len_eq,Xk,show ¬i+(prices.length - i)<prices.length by omega,Xg,Xe,claimOf]
theorem ZcP {N:Nat} {xs:List Int} {b:Int} (hb:bd b xs) (hb1:b≤1000000) (hl:xs.length<4194304) (hN:4194304≤N):Q158 N xs=some (xs.sum,()):=by
 have hp:∀i,i≤xs.length→0≤psum xs i∧psum xs i≤1000000*i:=ZbW (fun i hi=>⟨(hb i hi).1,by have:=(hb i hi).2;omega⟩)
 refine Q158_L1_run N (fun _=>xs) (psum xs) (fun i=>i) xs.length (fun i hi kx=> ?_) (fun kx=> ?_) N (by omega)
 ·have h1:=hp i (by omega)
  have h2:=hb i hi;simp [Q158_B1,hi,Zb hi,Zc (show i<4611686018427387904 by omega),Zh (show -9223372036854775808≤psum xs i+gd xs i 0 by omega) (by omega),psum_succ hi]
 ·simp [Q158_B1,Q158_K1,Zlp]
theorem Z7 {N:Nat} {xs:List Int} (h:xs.length<4194303):Q141 N xs=some (xs,()):=by
 simp only[Q141,Zf (Zn (n:=0+xs.length) (b:=8) (by omega) (by omega))]
theorem Z1 {N:Nat} {xs:List Int} (h:xs.length<4194303):Q58 N xs=some (xs,()):=by
 simp only[Q58,Zf (Zn (n:=0+xs.length) (b:=8) (by omega) (by omega))]
def shortOf (l:Lg):List Int×Bool:=bif ledB l then (shortsL l,true) else ([],false)
theorem ZbB {N:Nat} {l:Lg} (hs:SmL l) (hN:4194304≤N):Q48 N l=some (shortOf l,()):=by
 simp only[Q48,shortOf,ZM hs hN,Xa,Zt];cases h:ledB l with
 | false=>rfl
 | true=>simp only[Xd,ZbA (ZQ.1 h).1 hN,Xa,shortsL]
def leftSt (l:Lg) (a:Nat):Nat→Int
 | 0=>stockAt l.2.1 l.1.1 a
 | i+1=>leftSt l a i - imin (leftSt l a i) (gd l.1.1 (a+i) 0)
def leftTo (l:Lg) (a i:Nat):List Int:=(List.range i).map fun k=>gd l.1.1 (a+k) 0 - imin (leftSt l a k) (gd l.1.1 (a+k) 0)
theorem Zfo (l:Lg) (a i:Nat):(leftTo l a i).length=i:=by simp [leftTo]
theorem leftTo_succ (l:Lg) (a i:Nat):leftTo l a (i+1)=leftTo l a i++[gd l.1.1 (a+i) 0 - imin (leftSt l a i) (gd l.1.1 (a+i) 0)]:=map_range_succ _ _
theorem Zcj {x y:Int}:imin x y≤x∧imin x y≤y∧(imin x y=x∨imin x y=y):=by unfold imin;split<;>omega
theorem Zdm {l:Lg} (h:LedP l) {a:Nat} (ha:a≤l.2.1.length) (h0:0≤stockAt l.2.1 l.1.1 a):∀i,a+i≤l.2.1.length→0≤leftSt l a i∧leftSt l a i≤1600
 | 0,_=>⟨h0,(ZbN h ha).2⟩
 | i+1,hi=>by
  have h1:=Zdm h ha h0 i (by omega);have hn:=h.n;have h2:=h.c.b0 (a+i) (by omega);have h3:=Zcj (x:=leftSt l a i) (y:=gd l.1.1 (a+i) 0);simp only[leftSt];omega
theorem ZeM {l:Lg} (h:ledB l=true):0≤stockAt l.2.1 l.1.1 l.2.2.toNat:=by
 obtain ⟨_,h2⟩:=ZQ.1 h;cases hw:l.2.2.toNat with
 | zero=>rw[ZjQ];exact Int.le_refl _
 | succ n=>exact h2 n (by omega)
theorem ZaZ (N:Nat) (a b:Int):Q138 N a b=some (imin a b,()):=by
 simp only[Q138,ilt_eq,imin];by_cases h:a<b
 ·simp [h,show ¬b<a by omega]
 ·by_cases h2:b<a
  ·simp [h,h2]
  ·simp [h,h2];omega
def leftL (l:Lg):List Int:=leftTo l l.2.2.toNat (l.2.1.length - l.2.2.toNat)
theorem ZaS {N:Nat} {l:Lg} (hb:ledB l=true) (hN:4194304≤N):Q37 N l=some (leftL l,()):=by
 have h:=(ZQ.1 hb).1;have h0:=ZeM hb;have hn:=h.n;have h8:=h.c.n;have hw:=h.now;simp only[leftL];obtain ⟨a,ha⟩:∃a:Nat,l.2.2=a:=⟨l.2.2.toNat,by omega⟩
 simp only[ha,Xj] at h0 hw ⊢;have hlb:=Zdm h (a:=a) (by omega) h0;have hcl:(cut l.1.1 (a:Int) (l.1.1.length:Int)).length=l.2.1.length - a:=by rw[Zal _ (Xl _)];omega
 simp only[Q37,ha,ZF h (show a≤l.2.1.length by omega) hN,Xa,len_eq,hcl,Zf (ZA (show (0:Int)≤a by omega) (show (a:Int)≤l.1.1.length by omega) (show (l.1.1.length:Int)≤l.1.1.length by omega))];refine Q37_L1_run N (leftSt l a) (fun _=>cut l.1.1 a l.1.1.length) (fun _=>((l.2.1.length - a:Nat):Int)) (fun i=>(i:Int)) (leftTo l a) (l.2.1.length - a) (fun i hi kx=> ?_) (fun kx=> ?_) N (by omega)
 ·have h1:=hlb i (by omega)
  have h2:=h.c.b0 (a+i) (by omega);have h3:=Zcj (x:=leftSt l a i) (y:=gd l.1.1 (a+i) 0);simp only[Q37_B1,ilt_eq,Xk,hi,Xf,Xd,Zf (Zb (show i<(cut l.1.1 (a:Int) (l.1.1.length:Int)).length by omega)),Xj,Zf (Zn (n:=(leftTo l a i).length+1) (b:=8) (by rw[Zfo];omega) (by omega)),Znj l.1.1 (i:=a) (t:=l.1.1.length) (k:=i) 0 (by omega),Zc (show i<4611686018427387904 by omega)]
  rw[Zv (a:=leftSt l a i) (by omega) (by omega),Zv (by omega) (by omega),leftTo_succ];rfl
 ·simp only[Q37_B1,Q37_K1,ilt_eq,Xn,Xg,Xe]
theorem Zdn {N:Nat} {l:Lg} (hb:ledB l=true) (hN:4194304≤N):Q119 N l=some (leftL l,()):=by
 have h:=(ZQ.1 hb).1;have h0:=ZeM hb;have hn:=h.n;have h8:=h.c.n;have hw:=h.now;simp only[leftL];obtain ⟨a,ha⟩:∃a:Nat,l.2.2=a:=⟨l.2.2.toNat,by omega⟩
 simp only[ha,Xj] at h0 hw ⊢;have hlb:=Zdm h (a:=a) (by omega) h0;simp only[Q119,ha,ZU h (show a≤l.2.1.length by omega) hN,Xa];refine Q119_L1_run N (leftSt l a) (fun i=>((a+i:Nat):Int)) (fun _=>l) (leftTo l a) (l.2.1.length - a) (fun i hi kx=> ?_) (fun kx=> ?_) N (by omega)
 ·have h1:=hlb i (by omega)
  have h2:=h.c.b0 (a+i) (by omega);have h3:=Zcj (x:=leftSt l a i) (y:=gd l.1.1 (a+i) 0);simp only[Q119_B1,ilt_eq,len_eq,Xk,show a+i<l.2.1.length by omega,Xf,Xd,Zb (show a+i<l.1.1.length by omega),chk_true',Xj,ZaZ,Xa,Zf (Zn (n:=(leftTo l a i).length+1) (b:=8) (by rw[Zfo];omega) (by omega)),Zc (show a+i<4611686018427387904 by omega)]
  rw[Zv (a:=leftSt l a i) (by omega) (by omega),Zv (by omega) (by omega),leftTo_succ];rfl
 ·simp only[Q119_B1,Q119_K1,ilt_eq,len_eq,Xk,show ¬a+(l.2.1.length - a)<l.2.1.length by omega,Xg,Xe]
def needsOf (l:Lg):List Int×Bool:=bif ledB l then (leftL l,true) else ([],false)
theorem Zfp {N:Nat} {l:Lg} (hs:SmL l) (hN:4194304≤N):Q42 N l=some (needsOf l,()):=by
 simp only[Q42,needsOf,ZM hs hN,Xa,Zt];cases h:ledB l with
 | false=>rfl
 | true=>simp only[Xd,ZaS h hN,Xa]
end Go.Rx.Px
namespace Go.Rx
def pns (S:Nat→Bool) (n:Nat):List Int:=((List.range n).filter S).map fun (k:Nat)=>(k:Int)
def cnt (S:Nat→Bool) (n:Nat):Nat:=(pns S n).length
theorem pns_succ (S:Nat→Bool) (n:Nat):pns S (n+1)=pns S n++(if S n then [(n:Int)] else []):=by
 simp only[pns,range_filter_succ,List.map_append];congr 1;split<;>rfl
theorem ZoQ (S:Nat→Bool):cnt S 0=0:=rfl
theorem cnt_succ (S:Nat→Bool) (n:Nat):cnt S (n+1)=cnt S n+(if S n then 1 else 0):=by
 simp only[cnt,pns_succ,Xm];split<;>rfl
theorem Za7 (S:Nat→Bool):∀n,cnt S n≤n
 | 0=>Xl _
 | n+1=>by have:=Za7 S n;rw[cnt_succ];split<;>omega
theorem Zgf (S:Nat→Bool) {a:Nat}:∀ {b:Nat},a≤b→cnt S a≤cnt S b
 | 0, h => by obtain rfl : a = 0 := by omega
              exact Xl _
 | b+1,h=>by
  by_cases e:a=b+1
  ·rw[e];exact Xl _
  ·have:=Zgf S (show a≤b by omega);rw[cnt_succ];split<;>omega
theorem Zh3 {S:Nat→Bool} {a b:Nat} (hS:S a=true) (h:a<b):cnt S a<cnt S b:=by
 have:=Zgf S (show a+1≤b by omega);rw[cnt_succ,hS] at this;simp only[if_true] at this;omega
theorem Znk {S:Nat→Bool} {a b:Nat} (ha:S a=true) (hb:S b=true) (h:cnt S a=cnt S b):a=b:=by
 rcases Nat.lt_trichotomy a b with h1 | h1 | h1
 ·have:=Zh3 ha h1;omega
 ·exact h1
 ·have:=Zh3 hb h1;omega
theorem Zam {α:Type} {xs ys:List α} {i:Nat} {d:α} (h:i<xs.length):gd (xs++ys) i d=gd xs i d:=by
 simp only[gd,List.getD_eq_getElem?_getD,List.getElem?_append_left h]
theorem Za0 {α:Type} {xs:List α} {y d:α}:gd (xs++[y]) xs.length d=y:=by
 simp [gd,List.getD_eq_getElem?_getD]
theorem Zh4 {S:Nat→Bool}:∀ {n i:Nat},i<n→S i=true→cnt S i<(pns S n).length∧gd (pns S n) (cnt S i) 0=i
 | 0,i,h,_=>by omega
 | n+1,i,h,hS=>by
  rw[pns_succ];by_cases e:i=n
  ·subst e
   rw[hS];simp only[if_true];exact ⟨by simp [cnt],Za0⟩
  ·obtain ⟨h1,h2⟩:=Zh4 (n:=n) (i:=i) (by omega) hS
   exact ⟨by rw[Xm];omega,by rw[Zam h1];exact h2⟩
theorem Zeb {S:Nat→Bool}:∀ {n j:Nat},j<(pns S n).length→∃i,i<n∧S i=true∧cnt S i=j∧gd (pns S n) j 0=i
 | 0,j,h=>by simp [pns] at h
 | n+1,j,h=>by
  by_cases hj:j<(pns S n).length
  ·obtain ⟨i,h1,h2,h3,h4⟩:=Zeb hj
   exact ⟨i,by omega,h2,h3,by rw[pns_succ,Zam hj];exact h4⟩
  ·have h1:(pns S (n+1)).length=cnt S n+(if S n then 1 else 0):=cnt_succ S n
   cases hS:S n with
   | false=>rw[hS] at h1;simp only[Bool.false_eq_true,if_false,Nat.add_zero] at h1;have:cnt S n=(pns S n).length:=rfl;omega
   | true=>
    rw[hS] at h1;simp only[if_true] at h1;have h2:cnt S n=(pns S n).length:=rfl;have:j=(pns S n).length:=by omega
    subst this;exact ⟨n,by omega,hS,rfl,by rw[pns_succ,hS];exact Za0⟩
def own (S:Nat→Bool):Nat→Option Nat
 | 0=>if S 0 then some 0 else none
 | k+1=>if S (k+1) then some (k+1) else own S k
theorem ZfH (S:Nat→Bool):∀k,(own S k=none∧cnt S (k+1)=0)∨(∃p,own S k=some p∧p≤k∧S p=true∧cnt S (k+1)=cnt S p+1)
 | 0=>by
  rw[cnt_succ];cases h:S 0 with
  | true=>exact .inr ⟨0,by simp [own,h],by omega,h,by simp⟩
  | false=>exact .inl ⟨by simp [own,h],by simp [ZoQ]⟩
 | k+1=>by
  rw[cnt_succ];cases h:S (k+1) with
  | true=>exact .inr ⟨k+1,by simp [own,h],by omega,h,by simp⟩
  | false=>
   simp only[own,h,Bool.false_eq_true,if_false,Nat.add_zero];rcases ZfH S k with h1 | ⟨p,h1,h2,h3⟩
   ·exact .inl h1
   ·exact .inr ⟨p,h1,by omega,h3⟩
theorem ZbF {S:Nat→Bool} {k p:Nat} (h:own S k=some p):p≤k∧S p=true∧cnt S (k+1)=cnt S p+1:=by
 rcases ZfH S k with ⟨h1,_⟩ | ⟨q,h1,h2⟩
 ·rw[h1] at h;cases h
 ·rw[h1] at h;cases h;exact h2
theorem Zbd {S:Nat→Bool} {i k:Nat} (hS:S i=true) (h:i≤k):own S k≠none:=by
 rcases ZfH S k with ⟨_,h2⟩ | ⟨q,h1,_⟩
 ·have:=Zh3 hS (show i<k+1 by omega);omega
 ·rw[h1];simp
theorem Znl {S:Nat→Bool} {i t:Nat} (hS:S i=true) (ht:cnt S t=cnt S i+1) (hmax:S t=true∨∀q,t≤q→S q=false∨True) {k:Nat} (hk:k<t):own S k=some i↔i≤k:=by
 constructor
 ·intro h;exact (ZbF h).1
 ·intro h
  rcases ZfH S k with ⟨h1,_⟩ | ⟨q,h1,h2,h3,h4⟩
  ·exact absurd h1 (Zbd hS h)
  ·have h5:=Zgf S (show k+1≤t by omega)
   have h6:=Zh3 hS (show i<k+1 by omega);have:q=i:=Znk h3 hS (by omega);rw[h1,this]
theorem Za1 {f:Nat→Int}:∀ {n:Nat},(∀i,i<n→f i=0)→rsum f n=0
 | 0,_=>rfl
 | n+1,h=>by rw[rsum,Za1 (n:=n) (fun i hi=>h i (by omega)),h n (by omega)];rfl
theorem ZiH {xs:List Int} {i t:Nat} (hit:i≤t) (g:Nat→Int) (h1:∀k,k<i→g k=0) (h2:∀k,i≤k→k<t→g k=gd xs k 0) (h3:∀k,t≤k→k<xs.length→g k=0) (ht:t≤xs.length):∀m,m≤xs.length→rsum g m=(if m≤i then 0 else if m≤t then psum xs m - psum xs i else psum xs t - psum xs i)
 | 0,_=>by simp [rsum]
 | m+1,hm=>by
  simp only[rsum,ZiH hit g h1 h2 h3 ht m (by omega)];by_cases c1:m<i
  ·rw[if_pos (by omega),if_pos (by omega),h1 m c1];rfl
  ·by_cases c2:m<t
   ·rw[h2 m (by omega) c2]
    by_cases c3:m=i
    ·subst c3;rw[if_pos (Xl _),if_neg (by omega),if_pos (by omega),psum_succ (by omega)];omega
    ·rw[if_neg (by omega),if_pos (by omega),if_neg (by omega),if_pos (by omega),psum_succ (by omega)];omega
   ·rw[h3 m (by omega) (by omega)]
    by_cases c3:m≤i
    ·rw[if_pos c3,if_neg (by omega),if_neg (by omega)]
     obtain rfl:t=i:=by omega
     omega
    ·by_cases c4:m=t
     ·subst c4;rw[if_neg c3,if_pos (Xl _),if_neg (by omega),if_neg (by omega)];omega
     ·rw[if_neg c3,if_neg (by omega),if_neg (by omega),if_neg (by omega)];omega
theorem ZeN {α:Type} (f:Nat→α) {n p:Nat} (v:α) (hp:p<n):List.set ((List.range n).map f) p v=(List.range n).map fun t=>if t=p then v else f t:=by
 apply List.ext_getElem (by simp);intro i h1 h2;simp only[List.getElem_set,List.getElem_map,List.getElem_range];by_cases e:p=i
 ·simp [e]
 ·simp [e,Ne.symm e]
theorem ZaE {α:Type} {f g:Nat→α} {n:Nat} (h:∀t,t<n→f t=g t):(List.range n).map f=(List.range n).map g:=List.map_congr_left fun t ht=>h t (List.mem_range.1 ht)
theorem Z8 {α:Type} (f:Nat→α) (n:Nat):((List.range n).map f).length=n:=by simp
end Go.Rx
namespace Go.Rx.Px
def planV (S:Nat→Bool) (need:List Int) (i t:Nat):Int:=rsum (fun k=>if own S k=some t then gd need k 0 else 0) i
def planL (S:Nat→Bool) (need:List Int) (i:Nat):List Int:=(List.range need.length).map (planV S need i)
def planS (S:Nat→Bool) (need:List Int):List Int:=planL S need need.length
def covS (S:Nat→Bool) (need:List Int):Bool:=(List.range need.length).all fun k=> !decide (own S k=none) || !decide (0<gd need k 0)
theorem Zlr {S:Nat→Bool} {need:List Int} (hb:bd 20 need) {i:Nat} (hi:i≤need.length) (t:Nat):0≤planV S need i t∧planV S need i t≤20*i:=by
 have:=Zbv (f:=fun k=>if own S k=some t then gd need k 0 else 0) (n:=i) (lo:=0) (hi:=20) (fun k hk=>by
  have:=hb k (by omega);split<;>omega)
 simp only[planV];omega
theorem ZbY (S:Nat→Bool) (need:List Int) (i:Nat):(planL S need i).length=need.length:=Z8 _ _
theorem ZcQ (S:Nat→Bool) (need:List Int) (i:Nat) {t:Nat} (ht:t<need.length):gd (planL S need i) t 0=planV S need i t:=Zbq _ _ ht
theorem Zh5 {S:Nat→Bool} {need:List Int} {i:Nat} (h:own S i=none):planL S need (i+1)=planL S need i:=ZaE fun t _=>by
 simp only[planV,rsum,h];simp
theorem Zh6 {S:Nat→Bool} {need:List Int} {i p:Nat} (h:own S i=some p) (hp:p<need.length):planL S need (i+1)=List.set (planL S need i) p (planV S need i p+gd need i 0):=by
 simp only[planL];rw[ZeN _ _ hp];refine ZaE fun t _=> ?_
 simp only[planV,rsum,h];by_cases e:t=p
 ·subst e;simp
 ·rw[if_neg e,if_neg (by simpa using fun h=>e h.symm)];omega
theorem Zh7 (S:Nat→Bool) (need:List Int):planL S need 0=List.replicate need.length 0:=by
 simp only[planL];apply List.ext_getElem (by simp);intro i h1 h2;simp [planV,rsum]
theorem Znm (S:Nat→Bool) (need:List Int):(covS S need=true∧∀i,i<need.length→own S i=none→¬0<gd need i 0)∨(covS S need=false∧∃j,j<need.length∧(∀i,i<j→own S i=none→¬0<gd need i 0)∧own S j=none∧0<gd need j 0):=by
 rcases ZZ (fun k=> !decide (own S k=none) || !decide (0<gd need k 0)) need.length with h | ⟨j,hj,hb,hat⟩
 ·exact .inl ⟨Zbz.2 h,fun i hi h1 h2=>by have:=h i hi;simp [h1,h2] at this⟩
 ·refine .inr ⟨?_,j,hj,fun i hi h1 h2=>by have:=hb i hi;simp [h1,h2] at this, ?_⟩
  ·cases hl:covS S need with
   | false=>rfl
   | true=>have:=Zbz.1 hl j hj;rw[hat] at this;cases this
  ·simpa using hat
theorem Znn {S:Nat→Bool} {n i:Nat} (hi:i<n):(decide (cnt S i<(pns S n).length) && decide (gd (pns S n) (cnt S i) 0=(i:Int)))=S i:=by
 cases hS:S i with
 | true=>
  obtain ⟨h1,h2⟩:=Zh4 hi hS;simp [h1,h2]
 | false=>
  by_cases h:cnt S i<(pns S n).length
  ·obtain ⟨q,_,h2,h3,h4⟩:=Zeb h
   have:q≠i:=fun e=>by rw[e,hS] at h2;cases h2
   have:¬gd (pns S n) (cnt S i) 0=(i:Int):=by rw[h4];omega
   simp [this]
  ·simp [h]
theorem Zag {N:Nat} {c:Cs} (hc:CaseP c) (S:Nat→Bool) (hN:4194304≤N):Q20 N c (pns S c.1.length)=some (bif covS S c.1 then (planS S c.1,true) else ([],false),()):=by
 have h8:=hc.n;have hb:=hc.b0
 have step:∀i,i<c.1.length→∀kx,Q20_B1 N kx (pns S c.1.length) (cnt S i) c.1 c.1.length i (planL S c.1 i)=
   bif decide (own S i=none) && decide (0<gd c.1 i 0) then some (([],false),()) else kx (pns S c.1.length) (cnt S (i+1)) c.1 c.1.length ((i+1:Nat):Int) (planL S c.1 (i+1)):=fun i hi kx=>by
  have hn1:=Za7 S i;have hK:Q20_B1 N kx (pns S c.1.length) (cnt S i) c.1 c.1.length i (planL S c.1 i)=Q20_K2 N kx (pns S c.1.length) (cnt S i) (gd c.1 i 0) c.1 c.1.length i (S i) (planL S c.1 i):=by
   rw[←Znn (S:=S) hi];simp only[Q20_B1,ilt_eq,len_eq,Xk,hi,Xf,Xd,Zb hi,chk_true',Xj,ieq_eq];by_cases h:cnt S i<(pns S c.1.length).length
   ·simp only[h,Xf,Xd,Zb h,chk_true',Bool.true_and]
   ·simp only[h,Xg,Xe,Bool.false_and]
  have hK2:Q20_K2 N kx (pns S c.1.length) (cnt S i) (gd c.1 i 0) c.1 c.1.length i (S i) (planL S c.1 i)=Q20_K1 N kx (pns S c.1.length) (cnt S (i+1)) (gd c.1 i 0) c.1 c.1.length i (planL S c.1 i):=by
   simp only[Q20_K2,cnt_succ];cases S i with
   | true=>simp only[Xd,if_true];rw[Zc (by omega)]
   | false=>simp only[Xe,Bool.false_eq_true,if_false,Nat.add_zero]
  rw[hK,hK2];simp only[Q20_K1,ieq_eq,ilt_eq,Zc (show i<4611686018427387904 by omega)];rcases ZfH S i with ⟨h1,h2⟩ | ⟨p,h1,h2,h3,h4⟩
  ·rw[h2,Zh5 h1]
   by_cases hp:0<gd c.1 i 0<;>simp [h1,hp]
  ·obtain ⟨g1,g2⟩:=Zh4 (n:=c.1.length) (show p<c.1.length by omega) h3
   have hbi:=hb i hi;have hv:=Zlr (S:=S) hb (show i≤c.1.length by omega) p;have hcp:=Za7 S p;have e1:isub .i64 ((cnt S (i+1):Nat):Int) 1=((cnt S p:Nat):Int):=by rw[Zv (by omega) (by omega),h4];omega
   have e2:decide (((cnt S (i+1):Nat):Int)=0)=false:=by rw[h4];simp;omega
   have e3:decide (own S i=none)=false:=by rw[h1];rfl
   simp only[e1,e2,e3,Xe,Bool.false_and,Zb g1,chk_true',Xj,g2,Zb (show p<(planL S c.1 i).length by rw[ZbY];omega),ZcQ S c.1 i (show p<c.1.length by omega)]
   rw[Zh (by omega) (by omega),Zh6 h1 (show p<c.1.length by omega)]
 simp only[Q20,len_eq,Zf (ZjP (n:=c.1.length) (b:=8) (by omega) (by omega)),Xj,←Zh7 S c.1];rcases Znm S c.1 with ⟨e,hall⟩ | ⟨e,j,hj,hbef,hat1,hat2⟩
 ·rw[e]
  refine Q20_L1_run N (fun _=>pns S c.1.length) (fun i=>((cnt S i:Nat):Int)) (fun _=>c.1) (fun _=>(c.1.length:Int)) (fun i=>(i:Int)) (planL S c.1) c.1.length (fun i hi kx=> ?_) (fun kx=> ?_) N (by omega)
  ·rw[step i hi]
   by_cases h1:own S i=none
   ·simp [h1,hall i hi h1]
   ·simp [h1]
  ·simp only[Q20_B1,Q20_K3,ilt_eq,Xn,Xg,Xe,Xd,planS]
 ·rw[e]
  refine Q20_L1_run N (fun _=>pns S c.1.length) (fun i=>((cnt S i:Nat):Int)) (fun _=>c.1) (fun _=>(c.1.length:Int)) (fun i=>(i:Int)) (planL S c.1) j (fun i hi kx=> ?_) (fun kx=> ?_) N (by omega)
  ·rw[step i (by omega)]
   by_cases h1:own S i=none
   ·simp [h1,hbef i hi h1]
   ·simp [h1]
  ·rw[step j hj]
   simp [hat1,hat2]
theorem Zmk {S:Nat→Bool} {n t:Nat} (ht:t<n):(decide (0<(pns S n).length) && decide (gd (pns S n) 0 0≤(t:Int)))= !decide (own S t=none):=by
 rcases ZfH S t with ⟨h1,h2⟩ | ⟨p,h1,h2,h3,h4⟩
 ·by_cases h:0<(pns S n).length
  ·obtain ⟨q,_,g2,g3,g4⟩:=Zeb h
   have:¬q≤t:=fun e=>Zbd g2 e h1
   simp only[h1,Xf,Bool.not_true,g4,h,Bool.true_and,decide_eq_false_iff_not];omega
  ·simp [h,h1]
 ·obtain ⟨g1,_⟩:=Zh4 (n:=n) (show p<n by omega) h3
  have h:0<(pns S n).length:=by omega
  obtain ⟨q,_,q2,q3,q4⟩:=Zeb h;have:q≤p:=by
   rcases Nat.lt_or_ge p q with e | e
   ·have:=Zh3 h3 e;omega
   ·exact e
  have h9:decide (gd (pns S n) 0 0≤(t:Int))=true:=by rw[q4];simp;omega
  rw[h9,h1];simp [h]
theorem ZfS {N:Nat} {c:Cs} (hc:CaseP c) (S:Nat→Bool) (hN:4194304≤N):Q151 N c (pns S c.1.length)=some (covS S c.1,()):=by
 have h8:=hc.n;have step:∀t,t<c.1.length→∀kx,Q151_B1 N kx (pns S c.1.length) t c=bif !decide (own S t=none) then some (true,()) else bif decide (0<gd c.1 t 0) then some (false,()) else kx (pns S c.1.length) ((t+1:Nat):Int) c:=fun t ht kx=>by
  rw[←Zmk (S:=S) ht];have e0:(0:Int).toNat=0:=rfl;simp only[Q151_B1,ilt_eq,ile_eq,len_eq,Xk,ht,Xf,Xd,Zb ht,chk_true',Xj,Zc (show t<4611686018427387904 by omega)];by_cases h:0<(pns S c.1.length).length
  ·have h':(0:Int)<((pns S c.1.length).length:Int):=by omega
   simp only[h,h',Xf,Xd,Bool.true_and,Zf (ZaL (i:=0) (n:=(pns S c.1.length).length) (by omega) (by omega))]
  ·have h':¬(0:Int)<((pns S c.1.length).length:Int):=by omega
   simp only[h,h',Xg,Xe,Bool.false_and]
 have stay:∀ {a b:Nat},a≤b→own S a≠none→own S b≠none:=fun {a b} hab ha=>by
  rcases ZfH S a with ⟨h1,_⟩ | ⟨p,_,h2,h3,_⟩
  ·exact absurd h1 ha
  ·exact Zbd h3 (by omega)
 rcases ZZ (fun t=>decide (own S t=none) && !decide (0<gd c.1 t 0)) c.1.length with h | ⟨j,hj,hb,hat⟩
 ·have hcov:covS S c.1=true:=Zbz.2 fun i hi=>by
   have:=h i hi;simp only[Xh] at this;rw[this.2];simp
  rw[hcov];refine Q151_L1_run N (fun _=>pns S c.1.length) (fun i=>(i:Int)) (fun _=>c) c.1.length (fun i hi kx=> ?_) (fun kx=> ?_) N (by omega)
  ·rw[step i hi]
   have:=h i hi;simp only[Xh,Bool.not_eq_true'] at this;rw[this.1,this.2];rfl
  ·simp only[Q151_B1,Q151_K1,ilt_eq,len_eq,Xn,Xg,Xe]
 ·have hloop:∀i,i<j→∀kx,Q151_B1 N kx (pns S c.1.length) i c=kx (pns S c.1.length) ((i+1:Nat):Int) c:=fun i hi kx=>by
   rw[step i (by omega)];have:=hb i hi;simp only[Xh,Bool.not_eq_true'] at this;rw[this.1,this.2];rfl
  refine Q151_L1_run N (fun _=>pns S c.1.length) (fun i=>(i:Int)) (fun _=>c) j hloop (fun kx=> ?_) N (by omega)
  rw[step j hj];cases ho:decide (own S j=none) with
  | false=>
   have ho':own S j≠none:=by simpa using ho
   have hcov:covS S c.1=true:=Zbz.2 fun i hi=>by
    by_cases hij:i<j
    ·have:=hb i hij
     simp only[Xh] at this;rw[this.2];simp
    ·have:=stay (show j≤i by omega) ho'
     simp [this]
   rw[hcov];rfl
  | true=>
   rw[ho] at hat;have hn:decide (0<gd c.1 j 0)=true:=by simpa using hat
   have hcov:covS S c.1=false:=by
    cases hl:covS S c.1 with
    | false=>rfl
    | true=>have:=Zbz.1 hl j hj;simp only[ho,hn] at this;cases this
   rw[hn,hcov];rfl
theorem Zls {S:Nat→Bool} {need:List Int} {i t:Nat} (hS:S i=true) (hit:i<t) (ht:t≤need.length) (hcnt:cnt S t=cnt S i+1) (hend:t=need.length∨S t=true):planV S need need.length i=psum need t - psum need i:=by
 have:=ZiH (xs:=need) (i:=i) (t:=t) (by omega) (fun k=>if own S k=some i then gd need k 0 else 0) (fun k hk=>by
  rw[if_neg fun h=>by have:=(ZbF h).1;omega]) (fun k h1 h2=>by
  rw[if_pos ((Znl hS hcnt (.inr fun _ _=> .inr trivial) h2).2 h1)]) (fun k h1 h2=>by
  rcases hend with h | h
  ·omega
  ·rw[if_neg]
   intro h3;have h4:=(ZbF h3).2.2;have h5:=Zh3 h (show t<k+1 by omega);omega) ht need.length (Xl _)
 simp only[planV];rw[this];by_cases h1:need.length≤i
 ·omega
 ·rw[if_neg h1]
  by_cases h2:need.length≤t
  ·rw[if_pos h2];obtain rfl:t=need.length:=by omega
   rfl
  ·rw[if_neg h2]
theorem ZgV {S:Nat→Bool} {need:List Int} {m t:Nat} (hS:S t=false):planV S need m t=0:=Za1 fun k _=>by
 rw[if_neg];intro h;have:=(ZbF h).2.1;rw[hS] at this;cases this
def fromL (S:Nat→Bool) (need:List Int) (j:Nat):List Int:=(List.range need.length).map fun t=>if S t && decide (cnt S t<j) then planV S need need.length t else 0
theorem Zbn {N:Nat} {c:Cs} (hc:CaseP c) (S:Nat→Bool) (hN:4194304≤N):Q152 N c (pns S c.1.length)=some (planS S c.1,()):=by
 have h8:=hc.n;have hb:=hc.b0;have hlen:=Za7 S c.1.length;have hpl:(pns S c.1.length).length=cnt S c.1.length:=rfl;have hfl:∀j,(fromL S c.1 j).length=c.1.length:=fun j=>Z8 _ _
 have h0:fromL S c.1 0=List.replicate c.1.length 0:=by
  apply List.ext_getElem (by simp [fromL]);intro i h1 h2;simp [fromL]
 simp only[Q152,len_eq,Zf (ZjP (n:=c.1.length) (b:=8) (by omega) (by omega)),Xj,←h0];refine Q152_L1_run N (fun _=>pns S c.1.length) (fun i=>(i:Int)) (fun _=>c) (fromL S c.1) (pns S c.1.length).length (fun j hj kx=> ?_) (fun kx=> ?_) N (by omega)
 ·obtain ⟨i,g1,g2,g3,g4⟩:=Zeb hj
  have key:∀t:Nat,i<t→t≤c.1.length→cnt S t=cnt S i+1→(t=c.1.length∨S t=true)→
    Q152_K1 N kx (pns S c.1.length) j t c (fromL S c.1 j)=kx (pns S c.1.length) ((j+1:Nat):Int) c (fromL S c.1 (j+1)):=fun t h1 h2 h3 h4=>by
   simp only[Q152_K1,Zb hj,chk_true',Xj,g4,Zf (ZA (show (0:Int)≤i by omega) (show (i:Int)≤t by omega) (show (t:Int)≤c.1.length by omega)),ZcP (N:=N) (Zdl (i:=i) (t:=t) hb h2) (by omega) (by rw[Zal (i:=i) (t:=t) _ h2];omega) hN,Xa,Zb (show i<(fromL S c.1 j).length by rw[hfl];omega),Zc (show j<4611686018427387904 by omega)]
   congr 1
   rw[Zea (by omega),←Zls g2 h1 h2 h3 h4];simp only[fromL];rw[ZeN _ _ g1];refine ZaE fun u _=> ?_
   by_cases e:u=i
   ·subst e;rw[if_pos rfl,g2,g3];simp
   ·rw[if_neg e]
    cases hu:S u with
    | false=>simp
    | true=>
     have:cnt S u≠j:=fun h=>e (Znk hu g2 (by omega))
     simp only[Bool.true_and,Xi];by_cases h9:cnt S u<j
     ·rw[if_pos h9,if_pos (by omega)]
     ·rw[if_neg h9,if_neg (by omega)]
  simp only[Q152_B1,ilt_eq,len_eq,Xk,hj,Xf,Xd,Zc (show j<4611686018427387904 by omega)];by_cases hj1:j+1<(pns S c.1.length).length
  ·obtain ⟨t,q1,q2,q3,q4⟩:=Zeb hj1
   have hit:i<t:=by
    rcases Nat.lt_or_ge i t with e | e
    ·exact e
    ·have:=Zgf S e;omega
   simp only[hj1,Xf,Xd,Zb hj1,chk_true',Xj,q4];exact key t hit (by omega) (by omega) (.inr q2)
  ·have:¬(((j+1:Nat):Int)<((pns S c.1.length).length:Int)):=by omega
   simp only[hj1,Xg,Xe];exact key c.1.length g1 (Xl _) (by omega) (.inl rfl)
 ·simp only[Q152_B1,Q152_K2,ilt_eq,len_eq,Xn,Xg,Xe,planS,planL,fromL]
  congr 2
  refine ZaE fun t ht=> ?_
  cases hS:S t with
  | false=>simp [ZgV hS]
  | true=>
   have:=(Zh4 ht hS).1;simp [this]
theorem Zec {c:Cs} (hc:CaseP c) (S:Nat→Bool):PlanP c (planS S c.1):=by
 refine ⟨hc,ZbY _ _ _,fun i hi=> ?_⟩;rw[planS,ZbY] at hi;have h8:=hc.n;have:=Zlr (S:=S) hc.b0 (Xl _) i;rw[planS,ZcQ S c.1 _ hi];omega
end Go.Rx.Px
namespace Go.Rx
theorem ZoR {q:Nat} (h:q<1000000000):iand .i64 (q:Int) 1=((q % 2:Nat):Int):=by
 have e:(BitVec.ofInt 64 (q:Int) &&& BitVec.ofInt 64 1).toNat=q % 2:=by
  rw[BitVec.toNat_and,BitVec.toNat_ofInt,BitVec.toNat_ofInt];have e1:((q:Int) % ((2 ^ 64:Nat):Int)).toNat=q:=by
   rw[Int.emod_eq_of_lt (by omega) (by omega)];simp
  have e2:((1:Int) % ((2 ^ 64:Nat):Int)).toNat=1:=by decide
  rw[e1,e2,Nat.and_one_is_mod]
 show IntKind.i64.wrap (((BitVec.ofInt 64 (q:Int) &&& BitVec.ofInt 64 1).toNat:Nat):Int)=_;rw[e,Zcg (by omega) (by omega)]
theorem Zno {code x:Nat} (hc:code<1000000000) (hx:x≤60):ieq (iand .i64 (ishr .i64 (code:Int) (x:Int)) 1) 1=code.testBit x:=by
 have h1:ishr .i64 (code:Int) (x:Int)=((code / 2 ^ x:Nat):Int):=by
  simp only[ishr,Xj,show IntKind.i64.bits=64 from rfl,Nat.min_eq_left (show x≤64 by omega)];rw[Int.fdiv_eq_ediv_of_nonneg _ (Int.pow_nonneg (by omega))];simp
 have hm:code / 2 ^ x≤code:=Nat.div_le_self _ _;rw[h1,Nat.testBit_eq_decide_div_mod_eq];generalize code / 2 ^ x=q at hm;rw[ZoR (by omega)];simp only[ieq_eq,decide_eq_decide];omega
theorem ZdF {n:Nat} (h:n≤30):ishl .i64 1 (n:Int)=((2 ^ n:Nat):Int):=by
 have h1:2 ^ n≤2 ^ 30:=Nat.pow_le_pow_right (by omega) h;simp only[ishl,Xj,show IntKind.i64.bits=64 from rfl,Nat.min_eq_left (show n≤64 by omega)];rw[show (1:Int)*2 ^ n=((2 ^ n:Nat):Int) by simp];generalize 2 ^ n=q at h1;exact Zcg (by omega) (by omega)
noncomputable def lexlt (a b:List Int):Bool:= @decide (∃j,j<a.length∧(∀i,i<j→gd a i 0=gd b i 0)∧gd a j 0<gd b j 0) (Classical.propDecidable _)
theorem Zlt {a b:List Int} (h:∀i,i<a.length→gd a i 0=gd b i 0):lexlt a b=false:=by
 simp only[lexlt,decide_eq_false_iff_not]
 rintro ⟨j,hj,_,h2⟩
 have:=h j hj;omega
theorem Zpu {a b:List Int} {j:Nat} (hj:j<a.length) (hb:∀i,i<j→gd a i 0=gd b i 0) (hne:gd a j 0≠gd b j 0):lexlt a b=decide (gd a j 0<gd b j 0):=by
 simp only[lexlt];rw[decide_eq_decide];constructor
 ·rintro ⟨k,hk,h1,h2⟩
  rcases Nat.lt_trichotomy k j with h | h | h
  ·have:=hb k h;omega
  ·subst h;exact h2
  ·exact absurd (h1 j h) hne
 ·intro h;exact ⟨j,hj,hb,h⟩
noncomputable def befB (a b:List Int):Bool:=decide (a.length<b.length) || (decide (a.length=b.length) && lexlt a b)
theorem Zh8 (a b:List Int):(∀i,i<a.length→gd a i 0=gd b i 0)∨∃j,j<a.length∧(∀i,i<j→gd a i 0=gd b i 0)∧gd a j 0≠gd b j 0:=by
 rcases ZZ (fun i=>decide (gd a i 0=gd b i 0)) a.length with h | ⟨j,hj,hb,hat⟩
 ·exact .inl fun i hi=>by simpa using h i hi
 ·exact .inr ⟨j,hj,fun i hi=>by simpa using hb i hi,by simpa using hat⟩
end Go.Rx
namespace Go.Rx.Px
theorem ZeO (N:Nat) (x y:Int):Q0 N x y=some (if x<y then -1 else if y<x then 1 else 0,()):=by
 simp only[Q0,Q1,ilt_eq,ine_eq,Xf,Bool.not_true,Xa,Xe];by_cases h:x<y
 ·simp [h]
 ·by_cases h2:y<x<;>simp [h,h2]
theorem Zck {N:Nat} {a b:List Int} (hl:a.length=b.length) (hs:a.length<4194304) (hN:4194304≤N):∃r,Q89 N a b=some (r,())∧decide (r<0)=lexlt a b:=by
 have step:∀i,i<a.length→∀kx,Q89_B1 N kx a b a a.length i=bif decide (gd a i 0=gd b i 0) then kx a b a a.length ((i+1:Nat):Int) else some (if gd a i 0<gd b i 0 then -1 else 1,()):=fun i hi kx=>by
  simp only[Q89_B1,ilt_eq,ile_eq,len_eq,Xk,Int.ofNat_le,hi,Xf,Xd,Zb hi,Zb (show i<b.length by omega),show ¬b.length≤i by omega,Xg,Xe,chk_true',Xj,ZeO,Xa,ine_eq,Zc (show i<4611686018427387904 by omega)];by_cases h:gd a i 0=gd b i 0
  ·simp [h]
  ·by_cases h2:gd a i 0<gd b i 0
   ·simp [h,h2]
   ·simp [h,h2,show gd b i 0<gd a i 0 by omega]
 rcases Zh8 a b with h | ⟨j,hj,hb,hat⟩
 ·refine ⟨0, ?_,by rw[Zlt h];rfl⟩
  refine Q89_L1_run N (fun _=>a) (fun _=>b) (fun _=>a) (fun _=>(a.length:Int)) (fun i=>(i:Int)) a.length (fun i hi kx=>by rw[step i hi,Xc (h i hi)];rfl) (fun kx=> ?_) N (by omega)
  simp only[Q89_B1,Q89_K1,ilt_eq,len_eq,hl,Xn,Xg,Xe]
 ·refine ⟨if gd a j 0<gd b j 0 then -1 else 1, ?_,by rw[Zpu hj hb hat];by_cases h:gd a j 0<gd b j 0<;>simp [h]⟩
  exact Q89_L1_run N (fun _=>a) (fun _=>b) (fun _=>a) (fun _=>(a.length:Int)) (fun i=>(i:Int)) j (fun i hi kx=>by rw[step i (by omega),Xc (hb i hi)];rfl) (fun kx=>by rw[step j hj,Xb hat];rfl) N (by omega)
theorem Zc0 {N:Nat} {a b:List Int} (hs:a.length<4194304) (hN:4194304≤N):Q147 N a b=some (befB a b,()):=by
 by_cases hl:a.length=b.length
 ·have step:∀i,i<a.length→∀kx,Q147_B1 N kx a b i=bif decide (gd a i 0=gd b i 0) then kx a b ((i+1:Nat):Int) else some (decide (gd a i 0<gd b i 0),()):=fun i hi kx=>by
   simp only[Q147_B1,ilt_eq,len_eq,Xk,hi,Xf,Xd,Zb hi,Zb (show i<b.length by omega),chk_true',Xj,ine_eq,Zt,Zc (show i<4611686018427387904 by omega)]
  have e:befB a b=lexlt a b:=by simp [befB,hl]
  simp only[Q147,ine_eq,len_eq,ZkD,hl,Xf,Zt,Xd,e];rcases Zh8 a b with h | ⟨j,hj,hb,hat⟩
  ·rw[Zlt h]
   refine Q147_L1_run N (fun _=>a) (fun _=>b) (fun i=>(i:Int)) a.length (fun i hi kx=>by rw[step i hi,Xc (h i hi)];rfl) (fun kx=> ?_) N (by omega)
   simp only[Q147_B1,Q147_K1,ilt_eq,len_eq,Xn,Xg,Xe]
  ·rw[Zpu hj hb hat]
   exact Q147_L1_run N (fun _=>a) (fun _=>b) (fun i=>(i:Int)) j (fun i hi kx=>by rw[step i (by omega),Xc (hb i hi)];rfl) (fun kx=>by rw[step j hj,Xb hat];rfl) N (by omega)
 ·have:befB a b=decide (a.length<b.length):=by simp [befB,hl]
  simp only[Q147,ine_eq,ilt_eq,len_eq,ZkD,hl,Xg,Zt,Xe,this]
  congr 2;rw[decide_eq_decide];omega
def bitS (k:Nat):Nat→Bool:=fun x=>k.testBit x
theorem ZdV {N n k:Nat} (hn:n≤30) (hk:k<1000000000) (hN:4194304≤N):Q149 N n k=some (pns (bitS k) n,()):=by
 refine Q149_L1_run N (fun _=>(n:Int)) (fun _=>(k:Int)) (fun i=>(i:Int)) (pns (bitS k)) n (fun i hi kx=> ?_) (fun kx=> ?_) N (by omega)
 ·have hc:=Za7 (bitS k) i
  simp only[cnt] at hc;simp only[Q149_B1,ilt_eq,Xk,hi,Xf,Xd,ile_eq,show (0:Int)≤i by omega,chk_true',Zno hk (show i≤60 by omega),Zf (Zn (n:=(pns (bitS k) i).length+1) (b:=8) (by omega) (by omega)),pns_succ,Zc (show i<4611686018427387904 by omega)];cases h:k.testBit i<;>simp [bitS,h]
 ·simp only[Q149_B1,Q149_K1,ilt_eq,Xn,Xg,Xe]
def tk (least cost:Int) (bef:Bool):Bool:=decide (least<0) || (decide (cost<least) || (decide (cost=least) && bef))
noncomputable def bestSt (c:Cs):Nat→List Int×Int
 | 0=>([], -1)
 | k+1=>if covS (bitS k) c.1 && tk (bestSt c k).2 (costOf c (planS (bitS k) c.1)) (befB (pns (bitS k) c.1.length) (bestSt c k).1) then (pns (bitS k) c.1.length,costOf c (planS (bitS k) c.1)) else bestSt c k
theorem Zfq (c:Cs):∀k,(bestSt c k).1.length≤c.1.length
 | 0=>by simp [bestSt]
 | k+1=>by
  simp only[bestSt];split
  ·exact Za7 _ _
  ·exact Zfq c k
theorem ZgW (c:Cs):∀k,(bestSt c k=([], -1)∧∀j,j<k→covS (bitS j) c.1=false)∨(∃j,j<k∧covS (bitS j) c.1=true∧bestSt c k=(pns (bitS j) c.1.length,costOf c (planS (bitS j) c.1)))
 | 0=> .inl ⟨rfl,fun j h=>by omega⟩
 | k+1=>by
  simp only[bestSt];rcases ZgW c k with ⟨h1,h2⟩ | ⟨j,h1,h2,h3⟩
  ·cases hc:covS (bitS k) c.1 with
   | false=>
    refine .inl ⟨by simp [h1],fun j hj=> ?_⟩;by_cases e:j=k
    ·rw[e];exact hc
    ·exact h2 j (by omega)
   | true=>exact .inr ⟨k,by omega,hc,by simp [h1,tk]⟩
  ·by_cases h:(covS (bitS k) c.1 && tk (bestSt c k).2 (costOf c (planS (bitS k) c.1)) (befB (pns (bitS k) c.1.length) (bestSt c k).1))=true
   ·rw[if_pos h]
    exact .inr ⟨k,by omega,(by simp only[Xh] at h;exact h.1),rfl⟩
   ·rw[if_neg h]
    exact .inr ⟨j,by omega,h2,h3⟩
theorem Zp1 {c:Cs}:covS (bitS (if c.1.length=0 then 0 else 1)) c.1=true:=by
 by_cases h:c.1.length=0
 ·rw[if_pos h];exact Zbz.2 fun i hi=>by omega
 ·rw[if_neg h]
  refine Zbz.2 fun i hi=> ?_
  have:own (bitS 1) i≠none:=Zbd (i:=0) (by decide) (by omega);simp [this]
theorem ZdG (c:Cs):∃j,j<2 ^ c.1.length∧covS (bitS j) c.1=true∧bestSt c (2 ^ c.1.length)=(pns (bitS j) c.1.length,costOf c (planS (bitS j) c.1)):=by
 rcases ZgW c (2 ^ c.1.length) with ⟨_,h⟩ | h
 ·have h1:=h (if c.1.length=0 then 0 else 1) (by
   split
   ·rename_i e;rw[e];decide
   ·rename_i e
    have:2 ^ 1≤2 ^ c.1.length:=Nat.pow_le_pow_right (by omega) (by omega);omega)
  rw[Zp1] at h1;cases h1
 ·exact h
theorem ZgX {n:Nat} (h:n≤8):2 ^ n≤256:=Nat.pow_le_pow_right (n:=2) (by omega) h
theorem Zcy {N:Nat} {c:Cs} (hc:CaseP c) (hN:4194304≤N):Q9 N c=some (bestSt c (2 ^ c.1.length),()):=by
 have h8:=hc.n;have hp:=ZgX h8;simp only[Q9,ile_eq,len_eq,show (0:Int)≤c.1.length by omega,Xf,chk_true',ZdF (show c.1.length≤30 by omega)];refine Q9_L2_run N (fun k=>(bestSt c k).2) (fun _=>((2 ^ c.1.length:Nat):Int)) (fun k=>(k:Int)) (fun _=>c) (fun k=>(bestSt c k).1) (2 ^ c.1.length) (fun k hk kx=> ?_) (fun kx=> ?_) N (by omega)
 ·simp only[Q9_B2,ilt_eq,Xk,hk,Xf,Xd,len_eq]
  have inner:Q9_L1 N N kx (bestSt c k).2 k ((2 ^ c.1.length:Nat):Int) k c.1.length 0 c (bestSt c k).1 []=Q9_K2 N kx (bestSt c k).2 ((2 ^ c.1.length:Nat):Int) k c (bestSt c k).1 (pns (bitS k) c.1.length):=by
   refine Q9_L1_run N kx (fun _=>(bestSt c k).2) (fun _=>(k:Int)) (fun _=>((2 ^ c.1.length:Nat):Int)) (fun _=>(k:Int)) (fun _=>(c.1.length:Int)) (fun i=>(i:Int)) (fun _=>c) (fun _=>(bestSt c k).1) (pns (bitS k)) c.1.length (fun i hi kx1=> ?_) (fun kx1=> ?_) N (by omega)
   ·have hcl:=Za7 (bitS k) i
    simp only[cnt] at hcl;simp only[Q9_B1,ilt_eq,Xk,hi,Xf,Xd,ile_eq,show (0:Int)≤i by omega,chk_true',Zno (show k<1000000000 by omega) (show i≤60 by omega),Zf (Zn (n:=(pns (bitS k) i).length+1) (b:=8) (by omega) (by omega)),pns_succ,Zc (show i<4611686018427387904 by omega)];cases h:k.testBit i<;>simp [bitS,h]
   ·simp only[Q9_B1,ilt_eq,Xn,Xg,Xe]
  rw[inner];have hl:=Zfq c k;have hpn:(pns (bitS k) c.1.length).length≤c.1.length:=Za7 _ _;simp only[Q9_K2,Zag hc (bitS k) hN,Xa,Zt,bestSt];cases hcov:covS (bitS k) c.1 with
  | false=>simp [Zc (show k<4611686018427387904 by omega)]
  | true=>
   simp only[Xd,Zcx (Zec hc (bitS k)) hN,Xa,Bool.true_and]
   have hK1:∀b:Bool,Q9_K1 N kx (bestSt c k).2 (costOf c (planS (bitS k) c.1)) b ((2 ^ c.1.length:Nat):Int) k c (bestSt c k).1 (pns (bitS k) c.1.length)=
     bif tk (bestSt c k).2 (costOf c (planS (bitS k) c.1)) b then kx (costOf c (planS (bitS k) c.1)) ((2 ^ c.1.length:Nat):Int) ((k+1:Nat):Int) c (pns (bitS k) c.1.length) else kx (bestSt c k).2 ((2 ^ c.1.length:Nat):Int) ((k+1:Nat):Int) c (bestSt c k).1:=fun b=>by
    simp only[Q9_K1,ilt_eq,ieq_eq,tk,Zc (show k<4611686018427387904 by omega)];by_cases q1:(bestSt c k).2<0
    ·simp [q1]
    ·by_cases q2:costOf c (planS (bitS k) c.1)<(bestSt c k).2
     ·simp [q1,q2]
     ·by_cases q3:costOf c (planS (bitS k) c.1)=(bestSt c k).2
      ·cases b<;>simp [q1,q2,q3]
      ·simp [q1,q2,q3]
   have hb:∀X:Bool→Option ((List Int×Int)×Unit),(bif ilt (len (pns (bitS k) c.1.length)) (len (bestSt c k).1) then X true else bif ieq (len (pns (bitS k) c.1.length)) (len (bestSt c k).1) then (Q89 N (pns (bitS k) c.1.length) (bestSt c k).1).bind fun r2=>X (ilt r2.1 0) else X false)=X (befB (pns (bitS k) c.1.length) (bestSt c k).1):=fun X=>by
    simp only[ilt_eq,ieq_eq,len_eq,Xk,ZkD,befB];by_cases q1:(pns (bitS k) c.1.length).length<(bestSt c k).1.length
    ·simp [q1]
    ·by_cases q2:(pns (bitS k) c.1.length).length=(bestSt c k).1.length
     ·obtain ⟨r,e1,e2⟩:=Zck (N:=N) q2 (by omega) hN
      simp only[q1,q2,Nat.lt_irrefl,Xf,Xg,Xd,Xe,e1,Xa,e2,Bool.false_or,Bool.true_and]
     ·simp [q1,q2]
   rw[hb (fun b=>Q9_K1 N kx (bestSt c k).2 (costOf c (planS (bitS k) c.1)) b ((2 ^ c.1.length:Nat):Int) k c (bestSt c k).1 (pns (bitS k) c.1.length)),hK1];cases tk (bestSt c k).2 (costOf c (planS (bitS k) c.1)) (befB (pns (bitS k) c.1.length) (bestSt c k).1)<;>rfl
 ·simp only[Q9_B2,Q9_K3,ilt_eq,Xn,Xg,Xe]
theorem ZdW {N:Nat} {c:Cs} (hc:CaseP c) (hN:4194304≤N):Q148 N c=some ((bestSt c (2 ^ c.1.length)).1,()):=by
 have h8:=hc.n;have hp:=ZgX h8;refine Q148_L1_run N (fun k=>(bestSt c k).2) (fun k=>(k:Int)) (fun _=>c) (fun k=>(bestSt c k).1) (2 ^ c.1.length) (fun k hk kx=> ?_) (fun kx=> ?_) N (by omega)
 ·have hl:=Zfq c k
  have hpn:(pns (bitS k) c.1.length).length≤c.1.length:=Za7 _ _;simp only[Q148_B1,ile_eq,len_eq,show (0:Int)≤c.1.length by omega,Xf,chk_true',ZdF (show c.1.length≤30 by omega),ilt_eq,Xk,hk,Xd,ZdV (N:=N) (show c.1.length≤30 by omega) (show k<1000000000 by omega) hN,Xa,ZfS hc (bitS k) hN,Zt,bestSt];cases hcov:covS (bitS k) c.1 with
  | false=>simp [Zc (show k<4611686018427387904 by omega)]
  | true=>
   simp only[Xd,Zbn hc (bitS k) hN,Zch (Zec hc (bitS k)) hN,Xa,Bool.true_and,Zc0 (N:=N) (a:=pns (bitS k) c.1.length) (b:=(bestSt c k).1) (by omega) hN,ieq_eq,tk,Zc (show k<4611686018427387904 by omega)];by_cases q1:(bestSt c k).2<0
   ·simp [q1]
   ·by_cases q2:costOf c (planS (bitS k) c.1)<(bestSt c k).2
    ·simp [q1,q2]
    ·by_cases q3:costOf c (planS (bitS k) c.1)=(bestSt c k).2
     ·cases befB (pns (bitS k) c.1.length) (bestSt c k).1<;>simp [q1,q2,q3]
     ·simp [q1,q2,q3]
 ·simp only[Q148_B1,Q148_K1,ile_eq,len_eq,show (0:Int)≤c.1.length by omega,Xf,chk_true',ZdF (show c.1.length≤30 by omega),ilt_eq,Xn,Xg,Xe]
noncomputable def leastOf (c:Cs):Int:=(bestSt c (2 ^ c.1.length)).2
theorem ZgY {N:Nat} {c:Cs} (hc:CaseP c) (hN:4194304≤N):Q154 N c=some (leastOf c,()):=by
 obtain ⟨j,_,_,h3⟩:=ZdG c;simp only[Q154,ZdW hc hN,Xa,h3,Zbn hc (bitS j) hN,Zch (Zec hc (bitS j)) hN,leastOf]
noncomputable def bcOf (c:Cs):Int×Bool:=bif caseB c then (leastOf c,true) else (0,false)
theorem ZfT {N:Nat} {c:Cs} (hs:SmC c) (hN:4194304≤N):Q5 N c=some (bcOf c,()):=by
 simp only[Q5,ZK hs hN,Xa,Zt,bcOf];cases h:caseB c with
 | false=>rfl
 | true=>simp only[Xd,Zcy (ZB.1 h) hN,Xa,leastOf]
theorem ZfU {N:Nat} {c:Cs} (hs:SmC c) (hN:4194304≤N):Q93 N c=some (bcOf c,()):=by
 simp only[Q93,ZL hs hN,Xa,Zt,bcOf];cases h:caseB c with
 | false=>rfl
 | true=>simp only[Xd,ZgY (ZB.1 h) hN,Xa]
def spanV (c:Cs) (i k:Nat):Int:=rsum (fun q=>gd c.1 (i+q) 0*rateOf c i (i+q)) k
def spanOf (c:Cs) (i j:Nat):Int:=if psum c.1 j - psum c.1 i=0 then 0 else gd c.2.1 i 0+spanV c i (j - i)
theorem ZiI {c:Cs} (h:CaseP c) {i q:Nat} (hq:i+q<c.1.length):0≤gd c.1 (i+q) 0*rateOf c i (i+q)∧gd c.1 (i+q) 0*rateOf c i (i+q)≤1620:=by
 have h1:=h.b0 (i+q) hq;have h2:=Zci h (i:=i) (t:=i+q) (by omega) (by omega) (by omega);have h3:=Zb8 (B:=81) h1 (show -81≤rateOf c i (i+q)∧rateOf c i (i+q)≤81 by omega)
 have h4:=Int.mul_nonneg h1.1 h2.1;omega
theorem Zgg {c:Cs} (h:CaseP c) {i k:Nat} (hk:i+k≤c.1.length):0≤spanV c i k∧spanV c i k≤1620*k:=by
 have:=Zbv (f:=fun q=>gd c.1 (i+q) 0*rateOf c i (i+q)) (n:=k) (lo:=0) (hi:=1620) (fun q hq=>ZiI h (by omega))
 simp only[spanV];omega
theorem Z5 {c:Cs} (h:CaseP c) {i j:Nat} (hi:i<c.1.length) (hij:i≤j) (hj:j≤c.1.length):0≤spanOf c i j∧spanOf c i j≤13059:=by
 have h1:=Zgg h (i:=i) (k:=j - i) (by omega);have h2:=h.b1 i (by have:=h.l1;omega)
 have h8:=h.n;simp only[spanOf];split<;>omega
theorem Z0 {N:Nat} {c:Cs} (h:CaseP c) {i j:Nat} (hi:i<c.1.length) (hij:i≤j) (hj:j≤c.1.length) (hN:4194304≤N):Q22 N c i j=some (spanOf c i j,()):=by
 have h1:=h.l1;have h8:=h.n;simp only[Q22,Zf (ZA (show (0:Int)≤i by omega) (show (i:Int)≤j by omega) (show (j:Int)≤c.1.length by omega)),ZaH (N:=N) (Zdl (i:=i) (t:=j) h.b0 hj) (by omega) (by rw[Zal (i:=i) (t:=j) _ hj];omega) hN,Xa,Zea hij,ieq_eq,spanOf]
 by_cases hz:psum c.1 j - psum c.1 i=0
 ·simp [hz]
 ·simp only[hz,Xg,Xe,if_false,Zf (Zb (show i<c.2.1.length by omega)),Xj]
  have e0:gd c.2.1 i 0=gd c.2.1 i 0+spanV c i 0:=by simp [spanV,rsum]
  have:=Q22_L1_run N (fun _=>(i:Int)) (fun _=>(j:Int)) (fun k=>gd c.2.1 i 0+spanV c i k) (fun k=>((i+k:Nat):Int)) (fun _=>c) (j - i) (res_:=some (gd c.2.1 i 0+spanV c i (j - i),())) (fun k hk kx=> ?_) (fun kx=> ?_) N (by omega)
  ·rw[←e0] at this;exact this
  ·have hb:=ZiI h (i:=i) (q:=k) (by omega)
   have hs:=Zgg h (i:=i) (k:=k) (by omega);have h2:=h.b1 i (by omega);simp only[Q22_B1,ilt_eq,Xk,show i+k<j by omega,Xf,Xd,Zb (show i+k<c.1.length by omega),chk_true',Xj,ZaI h hi (show i≤i+k by omega) (show i+k≤c.1.length by omega) hN,Xa,Zc (show i+k<4611686018427387904 by omega)];rw[ZV (by omega) (by omega),Zh (by omega) (by omega)];simp only[spanV,rsum,Int.add_assoc];rfl
  ·simp only[Q22_B1,Q22_K1,ilt_eq,Xk,show ¬i+(j - i)<j by omega,Xg,Xe]
theorem Zan {N:Nat} {c:Cs} (h:CaseP c) {i j:Nat} (hi:i<c.1.length) (hij:i≤j) (hj:j≤c.1.length) (hN:4194304≤N):Q167 N c i j=some (spanOf c i j,()):=by
 have h1:=h.l1;have h8:=h.n;have hany0:(false:Bool)=decide (0<psum c.1 (i+0) - psum c.1 i):=by simp
 have e0:(0:Int)=spanV c i 0:=rfl;have:=Q167_L1_run N (fun _=>(i:Int)) (fun _=>(j:Int)) (spanV c i) (fun k=>decide (0<psum c.1 (i+k) - psum c.1 i)) (fun k=>((i+k:Nat):Int)) (fun _=>c) (j - i) (res_:=some (spanOf c i j,())) (fun k hk kx=> ?_) (fun kx=> ?_) N (by omega)
 ·rw[←hany0] at this;exact this
 ·have hb:=ZiI h (i:=i) (q:=k) (by omega)
  have hs:=Zgg h (i:=i) (k:=k) (by omega);have h2:=h.b0 (i+k) (by omega);have h3:=Zcv h.b0 (show i≤i+k by omega) (by omega);simp only[Q167_B1,ilt_eq,Xk,show i+k<j by omega,Xf,Xd,Zb (show i+k<c.1.length by omega),chk_true',Xj,Zbm h hi (show i≤i+k by omega) (show i+k≤c.1.length by omega) hN,Xa,Zc (show i+k<4611686018427387904 by omega),←Nat.add_assoc,psum_succ (show i+k<c.1.length by omega)];rw[ZV (by omega) (by omega),Zh (by omega) (by omega)];by_cases ha:0<psum c.1 (i+k) - psum c.1 i
  ·simp only[ha,Xf,Xd,spanV,rsum,Xc (show 0<psum c.1 (i+k)+gd c.1 (i+k) 0 - psum c.1 i by omega)]
  ·have:decide (0<gd c.1 (i+k) 0)=decide (0<psum c.1 (i+k)+gd c.1 (i+k) 0 - psum c.1 i):=by rw[decide_eq_decide];omega
   simp only[ha,Xg,Xe,spanV,rsum,this]
 ·have h3:=Zcv h.b0 hij hj
  have hs:=Zgg h (i:=i) (k:=j - i) (by omega);have h2:=h.b1 i (by omega);simp only[Q167_B1,Q167_K1,ilt_eq,Xk,Nat.lt_irrefl,Xg,Xe,Zt,spanOf,show i+(j - i)=j by omega,Xj,Zf (Zb (show i<c.2.1.length by omega))];by_cases ha:0<psum c.1 j - psum c.1 i
  ·simp only[ha,Xf,Xd,show ¬psum c.1 j - psum c.1 i=0 by omega,if_false]
   rw[Zh (by omega) (by omega)]
  ·simp only[ha,Xg,Xe,show psum c.1 j - psum c.1 i=0 by omega,if_true,Xn]
def bwIn (c:Cs) (i:Nat) (out:List Int):Nat→List Int
 | 0=>out
 | k+1=>List.set (bwIn c i out k) i (imin (gd (bwIn c i out k) i 0) (spanOf c i (i+1+k)+gd (bwIn c i out k) (i+1+k) 0))
def bwOut (c:Cs):Nat→List Int
 | 0=>List.replicate (c.1.length+1) 0
 | d+1=>bwIn c (c.1.length - 1 - d) (List.set (bwOut c d) (c.1.length - 1 - d) (spanOf c (c.1.length - 1 - d) c.1.length)) d
def bwL (c:Cs):List Int:=bwOut c c.1.length
theorem Zh9 {xs:List Int} {i j:Nat} {v:Int} (hi:i<xs.length):gd (List.set xs i v) j 0=if j=i then v else gd xs j 0:=by
 simp only[gd];exact ZH xs i j v 0 hi
theorem Zlu {b:Int} {xs:List Int} {i:Nat} {v:Int} (h:bd b xs) (hi:i<xs.length) (hv:0≤v∧v≤b):bd b (List.set xs i v):=fun j hj=>by
 rw[Zh9 hi];split
 ·exact hv
 ·exact h j (by simpa using hj)
theorem ZcR (c:Cs) (i:Nat) (out:List Int):∀k,(bwIn c i out k).length=out.length
 | 0=>rfl
 | k+1=>by simp only[bwIn,List.length_set,ZcR c i out k]
theorem ZiJ {c:Cs} (h:CaseP c) {i:Nat} {out:List Int} (hb:bd 13059 out) (hl:out.length=c.1.length+1) (hi:i<c.1.length):∀k,i+1+k≤c.1.length→bd 13059 (bwIn c i out k)
 | 0,_=>hb
 | k+1,hk=>by
  have ih:=ZiJ h hb hl hi k (by omega);have hlen:=ZcR c i out k;have h1:=ih i (by omega);have h2:=ih (i+1+k) (by omega);have h3:=Z5 h hi (show i≤i+1+k by omega) (by omega);have h4:=Zcj (x:=gd (bwIn c i out k) i 0) (y:=spanOf c i (i+1+k)+gd (bwIn c i out k) (i+1+k) 0);exact Zlu ih (by omega) (by omega)
theorem Zaw (c:Cs):∀d,(bwOut c d).length=c.1.length+1
 | 0=>by simp [bwOut]
 | d+1=>by simp only[bwOut,ZcR,List.length_set,Zaw c d]
theorem Zgh {c:Cs} (h:CaseP c):∀d,d≤c.1.length→bd 13059 (bwOut c d)
 | 0,_=>fun i hi=>by
  simp only[bwOut,List.length_replicate] at hi;have:gd (List.replicate (c.1.length+1) (0:Int)) i 0=0:=by simp [gd,List.getD_eq_getElem?_getD,hi]
  simp only[bwOut,this];omega
 | d+1,hd=>by
  have ih:=Zgh h d (by omega);have hl:=Zaw c d;have hs:=Z5 h (i:=c.1.length - 1 - d) (j:=c.1.length) (by omega) (by omega) (Xl _);exact ZiJ h (Zlu ih (by omega) hs) (by rw[List.length_set];exact hl) (by omega) d (by omega)
theorem Zbr {N:Nat} {c:Cs} (h:CaseP c) (hN:4194304≤N):Q8 N c=some (bwL c,()):=by
 have h8:=h.n;have e1:iadd .i64 (c.1.length:Int) 1=((c.1.length+1:Nat):Int):=Zc (by omega);simp only[Q8,len_eq,e1,Zf (ZjP (n:=c.1.length+1) (b:=8) (by omega) (by omega)),Xj];rw[Zv (by omega) (by omega)];have:=Q8_L2_run N (fun _=>(c.1.length:Int)) (fun d=>(c.1.length:Int) - 1 - d) (fun _=>c) (bwOut c) c.1.length (res_:=some (bwL c,())) (fun d hd kx=> ?_) (fun kx=> ?_) N (by omega)
 ·simpa [bwOut] using this
 ·have hi:(c.1.length:Int) - 1 - d=((c.1.length - 1 - d:Nat):Int):=by omega
  have hl:=Zaw c d;have hi2:c.1.length - 1 - d<c.1.length:=by omega
  have hs:=Z5 h (i:=c.1.length - 1 - d) (j:=c.1.length) (by omega) (by omega) (Xl _);have hb0:=Zlu (Zgh h d (by omega)) (i:=c.1.length - 1 - d) (by omega) hs;simp only[Q8_B2,ile_eq,hi,show (0:Int)≤((c.1.length - 1 - d:Nat):Int) by omega,Xf,Xd,Z0 h hi2 (show c.1.length - 1 - d≤c.1.length by omega) (Xl _) hN,Xa,Zb (show c.1.length - 1 - d<(bwOut c d).length by omega),chk_true',Xj,Zc (show c.1.length - 1 - d<4611686018427387904 by omega)];generalize hq:List.set (bwOut c d) (c.1.length - 1 - d) (spanOf c (c.1.length - 1 - d) c.1.length)=out at hb0;have hol:out.length=c.1.length+1:=by rw[←hq,List.length_set];exact hl
  refine Q8_L1_run N kx (fun _=>(c.1.length:Int)) (fun _=>((c.1.length - 1 - d:Nat):Int)) (fun k=>((c.1.length - 1 - d+1+k:Nat):Int)) (fun _=>c) (bwIn c (c.1.length - 1 - d) out) d (fun k hk kx1=> ?_) (fun kx1=> ?_) N (by omega)
  ·have hbk:=ZiJ h hb0 hol hi2 k (by omega)
   have hlk:=ZcR c (c.1.length - 1 - d) out k;have b1:=hbk (c.1.length - 1 - d) (by omega);have b2:=hbk (c.1.length - 1 - d+1+k) (by omega);have b3:=Z5 h hi2 (show c.1.length - 1 - d≤c.1.length - 1 - d+1+k by omega) (by omega);simp only[Q8_B1,ilt_eq,Xk,show c.1.length - 1 - d+1+k<c.1.length by omega,Xf,Xd,Zb (show c.1.length - 1 - d<(bwIn c (c.1.length - 1 - d) out k).length by omega),Zb (show c.1.length - 1 - d+1+k<(bwIn c (c.1.length - 1 - d) out k).length by omega),chk_true',Xj,Z0 h hi2 (show c.1.length - 1 - d≤c.1.length - 1 - d+1+k by omega) (by omega) hN,Xa,Zc (show c.1.length - 1 - d+1+k<4611686018427387904 by omega)];rw[Zh (by omega) (by omega)];rfl
  ·simp only[Q8_B1,Q8_K1,ilt_eq,Xk,show ¬c.1.length - 1 - d+1+d<c.1.length by omega,Xg,Xe,bwOut,hq]
   rw[Zv (by omega) (by omega)]
   congr 1;omega
 ·simp only[Q8_B2,Q8_K2,ile_eq,show ¬(0:Int)≤(c.1.length:Int) - 1 - (c.1.length:Nat) by omega,Xg,Xe,bwL]
theorem Zca {N:Nat} {c:Cs} (h:CaseP c) (hN:4194304≤N):Q160 N c=some (bwL c,()):=by
 have h8:=h.n;have e1:iadd .i64 (c.1.length:Int) 1=((c.1.length+1:Nat):Int):=Zc (by omega);simp only[Q160,len_eq,e1,Zf (ZjP (n:=c.1.length+1) (b:=8) (by omega) (by omega)),Xj];rw[Zv (by omega) (by omega)];have:=Q160_L2_run N (fun _=>(c.1.length:Int)) (fun d=>(c.1.length:Int) - 1 - d) (fun _=>c) (bwOut c) c.1.length (res_:=some (bwL c,())) (fun d hd kx=> ?_) (fun kx=> ?_) N (by omega)
 ·simpa [bwOut] using this
 ·have hi:(c.1.length:Int) - 1 - d=((c.1.length - 1 - d:Nat):Int):=by omega
  have hl:=Zaw c d;have hi2:c.1.length - 1 - d<c.1.length:=by omega
  have hs:=Z5 h (i:=c.1.length - 1 - d) (j:=c.1.length) (by omega) (by omega) (Xl _);have hb0:=Zlu (Zgh h d (by omega)) (i:=c.1.length - 1 - d) (by omega) hs;simp only[Q160_B2,ile_eq,hi,show (0:Int)≤((c.1.length - 1 - d:Nat):Int) by omega,Xf,Xd,Zan h hi2 (show c.1.length - 1 - d≤c.1.length by omega) (Xl _) hN,Xa,Zb (show c.1.length - 1 - d<(bwOut c d).length by omega),chk_true',Xj,Zc (show c.1.length - 1 - d<4611686018427387904 by omega)];generalize hq:List.set (bwOut c d) (c.1.length - 1 - d) (spanOf c (c.1.length - 1 - d) c.1.length)=out at hb0;have hol:out.length=c.1.length+1:=by rw[←hq,List.length_set];exact hl
  refine Q160_L1_run N kx (fun _=>(c.1.length:Int)) (fun _=>((c.1.length - 1 - d:Nat):Int)) (fun k=>((c.1.length - 1 - d+1+k:Nat):Int)) (fun _=>c) (bwIn c (c.1.length - 1 - d) out) d (fun k hk kx1=> ?_) (fun kx1=> ?_) N (by omega)
  ·have hbk:=ZiJ h hb0 hol hi2 k (by omega)
   have hlk:=ZcR c (c.1.length - 1 - d) out k;have b1:=hbk (c.1.length - 1 - d) (by omega);have b2:=hbk (c.1.length - 1 - d+1+k) (by omega);have b3:=Z5 h hi2 (show c.1.length - 1 - d≤c.1.length - 1 - d+1+k by omega) (by omega);simp only[Q160_B1,ilt_eq,Xk,show c.1.length - 1 - d+1+k<c.1.length by omega,Xf,Xd,Zb (show c.1.length - 1 - d<(bwIn c (c.1.length - 1 - d) out k).length by omega),Zb (show c.1.length - 1 - d+1+k<(bwIn c (c.1.length - 1 - d) out k).length by omega),chk_true',Xj,Zan h hi2 (show c.1.length - 1 - d≤c.1.length - 1 - d+1+k by omega) (by omega) hN,Xa,Zc (show c.1.length - 1 - d+1+k<4611686018427387904 by omega),ZaZ];rw[Zh (by omega) (by omega)];rfl
  ·simp only[Q160_B1,Q160_K1,ilt_eq,Xk,show ¬c.1.length - 1 - d+1+d<c.1.length by omega,Xg,Xe,bwOut,hq]
   rw[Zv (by omega) (by omega)]
   congr 1;omega
 ·simp only[Q160_B2,Q160_K2,ile_eq,show ¬(0:Int)≤(c.1.length:Int) - 1 - (c.1.length:Nat) by omega,Xg,Xe,bwL]
def sumOf (c:Cs) (i j:Nat):Int:=psum c.1 j - psum c.1 i
def goodB (c:Cs) (rule:Int) (i j:Nat):Bool:=
 bif decide (rule=1) then decide (spanOf c i (j+1)*((j - i:Nat):Int)≤spanOf c i j*((j+1 - i:Nat):Int))
 else bif decide (rule=2) then decide (spanOf c i (j+1)*sumOf c i j≤spanOf c i j*sumOf c i (j+1))
 else decide (spanOf c i (j+1) - gd c.2.1 i 0 - gd c.2.2.1 i 0*sumOf c i (j+1)≤gd c.2.1 i 0)
theorem Zlv {c:Cs} (h:CaseP c) {i j:Nat} (hij:i≤j) (hj:j≤c.1.length):0≤sumOf c i j∧sumOf c i j≤160:=by
 have h1:=Zcv h.b0 hij hj;have h2:=ZbW h.b0 i (by omega);have h3:=ZbW h.b0 j hj;have h8:=h.n;simp only[sumOf];omega
structure RuF (c:Cs) (i j:Nat):Prop where
 a0: -9223372036854775808≤spanOf c i (j+1)*((j - i:Nat):Int)∧spanOf c i (j+1)*((j - i:Nat):Int)<9223372036854775808
 a1: -9223372036854775808≤spanOf c i j*((j+1 - i:Nat):Int)∧spanOf c i j*((j+1 - i:Nat):Int)<9223372036854775808
 a2: -9223372036854775808≤spanOf c i (j+1)*sumOf c i j∧spanOf c i (j+1)*sumOf c i j<9223372036854775808
 a3: -9223372036854775808≤spanOf c i j*sumOf c i (j+1)∧spanOf c i j*sumOf c i (j+1)<9223372036854775808
 a4: -9223372036854775808≤gd c.2.2.1 i 0*sumOf c i (j+1)∧gd c.2.2.1 i 0*sumOf c i (j+1)<9223372036854775808
 a5: -9223372036854775808≤spanOf c i (j+1) - gd c.2.1 i 0∧spanOf c i (j+1) - gd c.2.1 i 0<9223372036854775808
 a6: -9223372036854775808≤spanOf c i (j+1) - gd c.2.1 i 0 - gd c.2.2.1 i 0*sumOf c i (j+1)∧spanOf c i (j+1) - gd c.2.1 i 0 - gd c.2.2.1 i 0*sumOf c i (j+1)<9223372036854775808
theorem ruF {c:Cs} (h:CaseP c) {i j:Nat} (hij:i<j) (hj:j<c.1.length):RuF c i j:=by
 have h8:=h.n;have b1:=Z5 h (i:=i) (j:=j) (by omega) (by omega) (by omega);have b2:=Z5 h (i:=i) (j:=j+1) (by omega) (by omega) (by omega);have s1:=Zlv h (i:=i) (j:=j) (by omega) (by omega);have s2:=Zlv h (i:=i) (j:=j+1) (by omega) (by omega);have u1:=h.b1 i (by have:=h.l1;omega)
 have u2:=h.b2 i (by have:=h.l2;omega)
 have m0:=Zb8 (B:=8) b2 (show -8≤((j - i:Nat):Int)∧((j - i:Nat):Int)≤8 by omega)
 have m1:=Zb8 (B:=8) b1 (show -8≤((j+1 - i:Nat):Int)∧((j+1 - i:Nat):Int)≤8 by omega)
 have m2:=Zb8 (B:=160) b2 (show -160≤sumOf c i j∧sumOf c i j≤160 by omega);have m3:=Zb8 (B:=160) b1 (show -160≤sumOf c i (j+1)∧sumOf c i (j+1)≤160 by omega)
 have m4:=Zb8 (B:=160) u2 (show -160≤sumOf c i (j+1)∧sumOf c i (j+1)≤160 by omega)
 exact ⟨by omega,by omega,by omega,by omega,by omega,by omega,by omega⟩
theorem ZbZ {N:Nat} {c:Cs} (h:CaseP c) {rule:Int} {i j:Nat} (hij:i<j) (hj:j<c.1.length) (hN:4194304≤N):Q17 N c rule i j=some (goodB c rule i j,()):=by
 have h8:=h.n;have F:=ruF h hij hj;have l1:=h.l1;have l2:=h.l2;have e1:iadd .i64 (j:Int) 1=((j+1:Nat):Int):=Zc (by omega);have e2:isub .i64 (j:Int) i=((j - i:Nat):Int):=by rw[Zv (by omega) (by omega)];omega
 have e3:isub .i64 ((j+1:Nat):Int) i=((j+1 - i:Nat):Int):=by rw[Zv (by omega) (by omega)];omega
 have t1:Q69 N (cut c.1 i j)=some (sumOf c i j,()):=by
  rw[ZaH (N:=N) (Zdl (i:=i) (t:=j) h.b0 (by omega)) (by omega) (by rw[Zal (i:=i) (t:=j) _ (by omega)];omega) hN,Zea (by omega)];rfl
 have t2:Q69 N (cut c.1 i ((j+1:Nat):Int))=some (sumOf c i (j+1),()):=by
  rw[ZaH (N:=N) (Zdl (i:=i) (t:=j+1) h.b0 (by omega)) (by omega) (by rw[Zal (i:=i) (t:=j+1) _ (by omega)];omega) hN,Zea (by omega)];rfl
 have c1:cutB (i:Int) j c.1.length=true:=ZA (by omega) (by omega) (by omega);have c2:cutB (i:Int) ((j+1:Nat):Int) c.1.length=true:=ZA (by omega) (by omega) (by omega);simp only[Q17,e1,e2,e3,Z0 h (show i<c.1.length by omega) (show i≤j by omega) (show j≤c.1.length by omega) hN,Z0 h (show i<c.1.length by omega) (show i≤j+1 by omega) (show j+1≤c.1.length by omega) hN,Xa,ieq_eq,ile_eq,t1,t2,Zf c1,Zf c2,Zf (Zb (show i<c.2.1.length by omega)),Zf (Zb (show i<c.2.2.1.length by omega)),Xj,ZV F.a0.1 F.a0.2,ZV F.a1.1 F.a1.2,ZV F.a2.1 F.a2.2,ZV F.a3.1 F.a3.2,ZV F.a4.1 F.a4.2,Zv F.a5.1 F.a5.2,Zv F.a6.1 F.a6.2,goodB];cases decide (rule=1)<;>cases decide (rule=2)<;>rfl
theorem Zml (a b:Int):decide (a<b)= !decide (b≤a):=by
 by_cases h:a<b
 ·simp [h,show ¬b≤a by omega]
 ·simp [h,show b≤a by omega]
theorem ZdX {N:Nat} {c:Cs} (h:CaseP c) {rule:Int} {i j:Nat} (hij:i<j) (hj:j<c.1.length) (hN:4194304≤N):Q164 N c rule i j=some (!goodB c rule i j,()):=by
 have h8:=h.n;have F:=ruF h hij hj;have l1:=h.l1;have l2:=h.l2;have e1:iadd .i64 (j:Int) 1=((j+1:Nat):Int):=Zc (by omega);have e2:isub .i64 (j:Int) i=((j - i:Nat):Int):=by rw[Zv (by omega) (by omega)];omega
 have e3:isub .i64 ((j+1:Nat):Int) i=((j+1 - i:Nat):Int):=by rw[Zv (by omega) (by omega)];omega
 have t1:Q158 N (cut c.1 i j)=some (sumOf c i j,()):=by
  rw[ZcP (N:=N) (Zdl (i:=i) (t:=j) h.b0 (by omega)) (by omega) (by rw[Zal (i:=i) (t:=j) _ (by omega)];omega) hN,Zea (by omega)];rfl
 have t2:Q158 N (cut c.1 i ((j+1:Nat):Int))=some (sumOf c i (j+1),()):=by
  rw[ZcP (N:=N) (Zdl (i:=i) (t:=j+1) h.b0 (by omega)) (by omega) (by rw[Zal (i:=i) (t:=j+1) _ (by omega)];omega) hN,Zea (by omega)];rfl
 have c1:cutB (i:Int) j c.1.length=true:=ZA (by omega) (by omega) (by omega);have c2:cutB (i:Int) ((j+1:Nat):Int) c.1.length=true:=ZA (by omega) (by omega) (by omega);simp only[Q164,e1,e2,e3,Zan h (show i<c.1.length by omega) (show i≤j by omega) (show j≤c.1.length by omega) hN,Zan h (show i<c.1.length by omega) (show i≤j+1 by omega) (show j+1≤c.1.length by omega) hN,Xa,ieq_eq,ilt_eq,t1,t2,Zf c1,Zf c2,Zf (Zb (show i<c.2.1.length by omega)),Zf (Zb (show i<c.2.2.1.length by omega)),Xj,ZV F.a0.1 F.a0.2,ZV F.a1.1 F.a1.2,ZV F.a2.1 F.a2.2,ZV F.a3.1 F.a3.2,ZV F.a4.1 F.a4.2,Zv F.a5.1 F.a5.2,Zv F.a6.1 F.a6.2,goodB,Zml];cases decide (rule=1)<;>cases decide (rule=2)<;>rfl
theorem Znp {S T:Nat→Bool}:∀ {n:Nat},(∀k,k<n→S k=T k)→pns S n=pns T n
 | 0,_=>rfl
 | n+1,h=>by rw[pns_succ,pns_succ,Znp (n:=n) (fun k hk=>h k (by omega)),h n (by omega)]
theorem ZkE {S:Nat→Bool} {i:Nat}:∀ {j:Nat},i≤j→(∀k,i≤k→k<j→S k=false)→pns S j=pns S i
 | 0, h, _ => by obtain rfl : i = 0 := by omega
                 rfl
 | j+1,h,hS=>by
  by_cases e:i=j+1
  ·rw[e]
  ·rw[pns_succ,hS j (by omega) (by omega),ZkE (j:=j) (by omega) (fun k h1 h2=>hS k h1 (by omega))];simp
theorem ZgZ {S T:Nat→Bool}:∀ {k:Nat},(∀q,q≤k→S q=T q)→own S k=own T k
 | 0,h=>by simp only[own,h 0 (Xl _)]
 | k+1,h=>by simp only[own,h (k+1) (Xl _),ZgZ (k:=k) (fun q hq=>h q (by omega))]
theorem ZoS {c:Cs} (rule:Int) {i:Nat} (hi:i<c.1.length):∃k,i+1+k≤c.1.length∧(∀q,q<k→goodB c rule i (i+1+q)=true)∧(i+1+k=c.1.length∨i+1+k<c.1.length∧goodB c rule i (i+1+k)=false):=by
 rcases ZZ (fun k=>goodB c rule i (i+1+k)) (c.1.length - i - 1) with h | ⟨j,hj,hb,hat⟩
 ·exact ⟨c.1.length - i - 1,by omega,fun q hq=>h q hq, .inl (by omega)⟩
 ·exact ⟨j,by omega,hb, .inr ⟨by omega,hat⟩⟩
def CovTo (S:Nat→Bool) (need:List Int) (i:Nat):Prop:=∀k,k<i→own S k=none→¬0<gd need k 0
theorem Zia (S:Nat→Bool) (n:Nat):(pns S n).length≤n:=Za7 S n
theorem Znq {need:List Int} (hb:bd 20 need) {S:Nat→Bool} {i:Nat} (hi:i<need.length) (hS:∀k,i≤k→S k=false) (hc:CovTo S need i):
  (gd need i 0=0→pns S (i+1)=pns S i∧CovTo S need (i+1))∧
  (gd need i 0≠0→∀j,i<j→∃T:Nat→Bool,(∀k,j≤k→T k=false)∧pns T j=pns S i++[(i:Int)]∧CovTo T need j):=by
 refine ⟨fun h0=>⟨?_,fun k hk ho=> ?_⟩,fun h0 j hij=>⟨fun k=>S k || decide (k=i),fun k hk=> ?_, ?_,fun k hk ho=> ?_⟩⟩
 ·rw[pns_succ,hS i (Xl _)];simp
 ·by_cases e:k=i
  ·subst e;omega
  ·exact hc k (by omega) ho
 ·simp [hS k (by omega)];omega
 ·rw[ZkE (i:=i+1) (by omega) (fun k h1 h2=>by simp [hS k (by omega)];omega),pns_succ]
  simp only[Xf,Bool.or_true,if_true];rw[Znp (T:=S) fun k hk=>by simp;omega]
 ·by_cases e:i≤k
  ·exact absurd ho (Zbd (S:=fun k=>S k || decide (k=i)) (i:=i) (by simp) e)
  ·refine hc k (by omega) ?_
   rw[←ho];exact ZgZ fun q hq=>by simp;omega
theorem Zhp {N:Nat} {c:Cs} (h:CaseP c) {rule:Int} {i k:Nat} (hk:i+1+k≤c.1.length) (hg:∀q,q<k→goodB c rule i (i+1+q)=true) (he:i+1+k=c.1.length∨i+1+k<c.1.length∧goodB c rule i (i+1+k)=false) (kx:Int→Int→Int→Cs→List Int→Option ((List Int)×Unit)) (out:List Int) (hN:4194304≤N):
  Q11_L1 N N kx rule c.1.length i ((i+1:Nat):Int) c out=kx rule c.1.length ((i+1+k:Nat):Int) c out:=by
 have h8:=h.n;refine Q11_L1_run N kx (fun _=>rule) (fun _=>(c.1.length:Int)) (fun _=>(i:Int)) (fun q=>((i+1+q:Nat):Int)) (fun _=>c) (fun _=>out) k (fun q hq kx1=> ?_) (fun kx1=> ?_) N (by omega)
 ·simp only[Q11_B1,ilt_eq,Xk,show i+1+q<c.1.length by omega,Xf,Xd,ZbZ h (rule:=rule) (show i<i+1+q by omega) (show i+1+q<c.1.length by omega) hN,Xa,hg q hq,Zc (show i+1+q<4611686018427387904 by omega)];rfl
 ·rcases he with he | ⟨h1,h2⟩
  ·simp only[Q11_B1,Q11_K1,ilt_eq,Xk,show ¬i+1+k<c.1.length by omega,Xg,Xe]
  ·simp only[Q11_B1,Q11_K1,ilt_eq,Xk,h1,Xf,Xd,ZbZ h (rule:=rule) (show i<i+1+k by omega) h1 hN,Xa,h2,Xe]
theorem Zhq {N:Nat} {c:Cs} (h:CaseP c) {rule:Int} {i k:Nat} (hk:i+1+k≤c.1.length) (hg:∀q,q<k→goodB c rule i (i+1+q)=true) (he:i+1+k=c.1.length∨i+1+k<c.1.length∧goodB c rule i (i+1+k)=false) (kx:Int→Int→Int→Cs→List Int→Option ((List Int)×Unit)) (out:List Int) (ho:out.length<4000) (hN:4194304≤N):
  Q166_L1 N N kx rule c.1.length i ((i+1:Nat):Int) c out=kx rule c.1.length ((i+1+k:Nat):Int) c (out++[(i:Int)]):=by
 have h8:=h.n;refine Q166_L1_run N kx (fun _=>rule) (fun _=>(c.1.length:Int)) (fun _=>(i:Int)) (fun q=>((i+1+q:Nat):Int)) (fun _=>c) (fun _=>out) k (fun q hq kx1=> ?_) (fun kx1=> ?_) N (by omega)
 ·simp only[Q166_B1,ilt_eq,Xk,show i+1+q<c.1.length by omega,Xf,Xd,ZdX h (rule:=rule) (show i<i+1+q by omega) (show i+1+q<c.1.length by omega) hN,Xa,hg q hq,Bool.not_true,Bool.not_false,Zc (show i+1+q<4611686018427387904 by omega)];rfl
 ·rcases he with he | ⟨h1,h2⟩
  ·simp only[Q166_B1,Q166_K1,ilt_eq,Xk,show ¬i+1+k<c.1.length by omega,Xg,Xe,Zf (Zn (n:=out.length+1) (b:=8) (by omega) (by omega))]
  ·simp only[Q166_B1,Q166_K1,ilt_eq,Xk,h1,Xf,Xd,ZdX h (rule:=rule) (show i<i+1+k by omega) h1 hN,Xa,h2,Bool.not_false,Bool.not_true,Xe,Zf (Zn (n:=out.length+1) (b:=8) (by omega) (by omega))]
theorem impl_rule_run {N : Nat} {c : Cs} (h : CaseP c) (rule : Int) (hN : 4194304 ≤ N) : ∀ d i, c.1.length - i = d → i ≤ c.1.length → ∀ S : Nat → Bool, (∀ k, i ≤ k → S k = false) → CovTo S c.1 i → ∃ T : Nat → Bool, CovTo T c.1 c.1.length ∧
      (∀ m, d < m → Q11_L2 N m rule c.1.length i c (pns S i) = some (pns T c.1.length, ())) ∧
      (∀m,d<m→Q166_L2 N m rule c.1.length i c (pns S i)=some (pns T c.1.length,())):=by
 have h8:=h.n;intro d
 induction d using Nat.strongRecOn with
 | ind d ih=>
  intro i hd hi S hS hcov;by_cases he:i=c.1.length
  ·subst he
   refine ⟨S,hcov,fun m hm=> ?_,fun m hm=> ?_⟩
   ·obtain ⟨m,rfl⟩:∃q,m=q+1:=⟨m - 1,by omega⟩
    rw[Q11_L2_succ];simp only[Q11_B2,Q11_K2,ilt_eq,Xn,Xg,Xe]
   ·obtain ⟨m,rfl⟩:∃q,m=q+1:=⟨m - 1,by omega⟩
    rw[Q166_L2_succ];simp only[Q166_B2,Q166_K2,ilt_eq,Xn,Xg,Xe]
  ·have hlt:i<c.1.length:=by omega
   obtain ⟨n1,n2⟩:=Znq h.b0 hlt hS hcov;have hol:=Zia S i;by_cases h0:gd c.1 i 0=0
   ·obtain ⟨e1,e2⟩:=n1 h0
    obtain ⟨T,t1,t2,t3⟩:=ih (c.1.length - (i+1)) (by omega) (i+1) rfl (by omega) S (fun k hk=>hS k (by omega)) e2
    refine ⟨T,t1,fun m hm=> ?_,fun m hm=> ?_⟩
    ·obtain ⟨m,rfl⟩:∃q,m=q+1:=⟨m - 1,by omega⟩
     rw[Q11_L2_succ];simp only[Q11_B2,ilt_eq,ieq_eq,Xk,hlt,Xf,Xd,Zf (Zb hlt),Xj,h0,Zc (show i<4611686018427387904 by omega)];rw[←e1];exact t2 m (by omega)
    ·obtain ⟨m,rfl⟩:∃q,m=q+1:=⟨m - 1,by omega⟩
     rw[Q166_L2_succ];simp only[Q166_B2,ilt_eq,ieq_eq,Xk,hlt,Xf,Xd,Zf (Zb hlt),Xj,h0,Zc (show i<4611686018427387904 by omega)];rw[←e1];exact t3 m (by omega)
   ·obtain ⟨k,g1,g2,g3⟩:=ZoS (c:=c) rule hlt
    obtain ⟨S1,s1,s2,s3⟩:=n2 h0 (i+1+k) (by omega);obtain ⟨T,t1,t2,t3⟩:=ih (c.1.length - (i+1+k)) (by omega) (i+1+k) rfl (by omega) S1 s1 s3;refine ⟨T,t1,fun m hm=> ?_,fun m hm=> ?_⟩
    ·obtain ⟨m,rfl⟩:∃q,m=q+1:=⟨m - 1,by omega⟩
     rw[Q11_L2_succ];simp only[Q11_B2,ilt_eq,ieq_eq,Xk,hlt,Xf,Xd,Zf (Zb hlt),Xj,h0,Xg,Xe,Zc (show i<4611686018427387904 by omega),Zf (Zn (n:=(pns S i).length+1) (b:=8) (by omega) (by omega))];rw[Zhp h g1 g2 g3 _ _ hN,←s2];exact t2 m (by omega)
    ·obtain ⟨m,rfl⟩:∃q,m=q+1:=⟨m - 1,by omega⟩
     rw[Q166_L2_succ];simp only[Q166_B2,ilt_eq,ieq_eq,Xk,hlt,Xf,Xd,Zf (Zb hlt),Xj,h0,Xg,Xe,Zc (show i<4611686018427387904 by omega)];rw[Zhq h g1 g2 g3 _ _ (by omega) hN,←s2];exact t3 m (by omega)
theorem ZjR {N:Nat} {c:Cs} (h:CaseP c) (rule:Int) (hN:4194304≤N):∃T:Nat→Bool,covS T c.1=true∧Q11 N c rule=some (pns T c.1.length,())∧Q166 N c rule=some (pns T c.1.length,()):=by
 have h8:=h.n;obtain ⟨T,t1,t2,t3⟩:=impl_rule_run h rule hN c.1.length 0 (by omega) (by omega) (fun _=>false) (fun _ _=>rfl) (fun k hk=>by omega);refine ⟨T, ?_, ?_, ?_⟩
 ·refine Zbz.2 fun i hi=> ?_
  by_cases ho:own T i=none
  ·simp [ho,t1 i hi ho]
  ·simp [ho]
 ·have:=t2 N (by omega)
  simpa [Q11,len_eq,pns] using this
 ·have:=t3 N (by omega)
  simpa [Q166,len_eq,pns] using this
end Go.Rx.Px
namespace Go.Rx
theorem Zlw {xs:List Int} {k:Nat} (v:Int) (hk:k<xs.length):∀ {i:Nat},i≤xs.length→psum (List.set xs k v) i=psum xs i+(if k<i then v - gd xs k 0 else 0)
 | 0,_=>by simp [ZeH]
 | i+1,hi=>by
  rw[psum_succ (by rw[List.length_set];omega),psum_succ (by omega),Zlw v hk (i:=i) (by omega)]
  have:gd (List.set xs k v) i 0=if i=k then v else gd xs i 0:=by simp only[gd];exact ZH xs k i v 0 hk
  rw[this];by_cases e:i=k
  ·subst e;rw[if_neg (by omega),if_pos rfl,if_pos (by omega)];omega
  ·by_cases l:k<i
   ·rw[if_pos l,if_neg e,if_pos (by omega)];omega
   ·rw[if_neg l,if_neg e,if_neg (by omega)];omega
end Go.Rx
namespace Go.Rx.Px
def newCon (l:Lg):(Lg×Xo×Xo×Int)×Bool:=bif ledB l then ((l,((⟨#[]⟩:Xo),((⟨#[]⟩:Xo),0))),true) else ((((([],([],([],[]))),([],0)):Lg),((⟨#[]⟩:Xo),((⟨#[]⟩:Xo),0))),false)
theorem ZjS {l:Lg} (h:ledB l=true):l.1.1.length<4194303∧l.1.2.1.length<4194303∧l.1.2.2.1.length<4194303∧l.1.2.2.2.length<4194303∧l.2.1.length<4194303:=by
 have hl:=(ZQ.1 h).1;have h1:=hl.c.n;have h2:=hl.c.l1;have h3:=hl.c.l2;have h4:=hl.c.l3;have h5:=hl.n;exact ⟨by omega,by omega,by omega,by omega,by omega⟩
theorem ZdY {N:Nat} {l:Lg} (h:ledB l=true):Q127 N l=some (l,()):=by
 obtain ⟨h1,h2,h3,h4,h5⟩:=ZjS h;simp only[Q127,Z7 h1,Z7 h2,Z7 h3,Z7 h4,Z7 h5,Xa]
theorem Zcb {N:Nat} {l:Lg} (h:ledB l=true):Q38 N l=some (l,()):=by
 obtain ⟨h1,h2,h3,h4,h5⟩:=ZjS h;simp only[Q38,Z1 h1,Z1 h2,Z1 h3,Z1 h4,Z1 h5,Xa]
theorem Za2 {N:Nat} {l:Lg} (hs:SmL l) (hN:4194304≤N):Q103 N l=some (newCon l,()):=by
 simp only[Q103,Zab hs hN,Xa,Zt,newCon];cases h:ledB l with
 | false=>rfl
 | true=>simp only[Xd,ZdY h,Xa]
theorem Zcc {N:Nat} {l:Lg} (hs:SmL l) (hN:4194304≤N):Q43 N l=some (newCon l,()):=by
 simp only[Q43,ZM hs hN,Xa,Zt,newCon];cases h:ledB l with
 | false=>rfl
 | true=>simp only[Xd,Zcb h,Xa]
theorem Znr {l:Lg} (hs:SmL l):SmL (newCon l).1.1:=by
 simp only[newCon];cases ledB l with
 | true=>exact hs
 | false=>exact ⟨⟨by simp,by simp,by simp,by simp⟩,by simp⟩
end Go.Rx.Px
namespace Go.Rx
theorem Zed (p:Nat→Bool) (n:Nat):((List.range n).all p=true∧∀t,t<n→p t=true)∨((List.range n).all p=false∧∃j,j<n∧(∀t,t<j→p t=true)∧p j=false):=by
 rcases ZZ p n with h | ⟨j,hj,hb,hat⟩
 ·exact .inl ⟨Zbz.2 h,h⟩
 ·refine .inr ⟨?_,j,hj,hb,hat⟩
  cases hl:(List.range n).all p with
  | false=>rfl
  | true=>exact absurd (Zbz.1 hl j hj) (by simp [hat])
abbrev Pl:=List (List Int)
def RngB (xs:List Int):Prop:=xs.length≤maxLen∧∀i,i<xs.length→(Lit.int .u8 (xs.getD i 0)).wf=true
theorem Zq6 {x:Int} (h:(Lit.int .u8 x).wf=true):0≤x∧x≤255:=by
 simpa [Lit.wf,IntKind.min,IntKind.max,IntKind.signed,IntKind.bits] using h
theorem RngB.bd {xs:List Int} (h:RngB xs):∀i,i<xs.length→0≤gd xs i 0∧gd xs i 0≤255:=fun i hi=>Zq6 (h.2 i hi)
theorem Zp2 (x:Int):0≤iand .u64 x 255∧iand .u64 x 255≤255:=by
 have h:(BitVec.ofInt 64 x &&& BitVec.ofInt 64 255).toNat≤255:=by
  rw[BitVec.toNat_and];exact Nat.le_trans Nat.and_le_right (by decide)
 have e:iand .u64 x 255=IntKind.u64.wrap (((BitVec.ofInt 64 x &&& BitVec.ofInt 64 255).toNat:Nat):Int):=rfl;rw[e];generalize (BitVec.ofInt 64 x &&& BitVec.ofInt 64 255).toNat=q at h;simp [IntKind.wrap,IntKind.bits,IntKind.signed];omega
theorem Zns {a n:Int} (ha:0≤a) (hn:0<n):0≤irem a n∧irem a n<n:=⟨Int.tmod_nonneg _ ha,Int.tmod_lt_of_pos _ hn⟩
abbrev Cu:=List Int×Int×Int
structure Bud (c:Cu) (k:Nat):Prop where
 b:∀i,i<c.1.length→0≤gd c.1 i 0∧gd c.1 i 0≤255
 l:c.1.length≤65536
 p:0≤c.2.1
 q:c.2.1+k≤1000000000
theorem Bud.mono {c:Cu} {k m:Nat} (h:Bud c k) (hm:m≤k):Bud c m:=⟨h.b,h.l,h.p,by have:=h.q;omega⟩
theorem ZoT {xs:List Int} (h:RngB xs) (hl:xs.length≤65536) (k:Nat) (hk:k≤1000000):Bud (xs,(0,0)) k:=⟨h.bd,hl,by show (0:Int)≤0;omega,by show (0:Int)+k≤1000000000;omega⟩
end Go.Rx
namespace Go.Rx.Px
structure Len9 (c:Cs) (n:Nat):Prop where
 l0:c.1.length≤n
 l1:c.2.1.length≤n
 l2:c.2.2.1.length≤n
 l3:c.2.2.2.length≤n
theorem Zib {N:Nat} {b:Int} {c:Cu} {k:Nat} (h:Bud c (k+1)) (hb:0≤b∧b≤255):∃v c',Q83_K1 N b c=some (v,c')∧Bud c' k∧0≤v∧v≤255:=by
 have hp:=h.p;have hq:=h.q;have hB:∀z:Int,Bud (c.1,(c.2.1+1,z)) k:=fun z=>⟨h.b,h.l,by show (0:Int)≤c.2.1+1;omega,by show c.2.1+1+(k:Int)≤1000000000;omega⟩
 simp only[Q83_K1,Zh (a:=c.2.1) (b:=1) (by omega) (by omega),ile_eq,len_eq];by_cases hl:c.2.1+1≤c.1.length
 ·simp only[hl,Xf,Xd]
  exact ⟨_,_,rfl,hB _,hb.1,hb.2⟩
 ·simp only[hl,Xg,Xe,show decide ((0:Int)≤40)=true by decide,chk_true']
  refine ⟨_,_,rfl,hB _, ?_⟩;have:=Zp2 (ishr .u64 (iadd .u64 (iadd .u64 (imul .u64 c.2.2 6364136223846793005) (icv .u64 b)) 462197) 40);show 0≤IntKind.i64.wrap _∧IntKind.i64.wrap _≤255;rw[Zcg (by omega) (by omega)];exact this
theorem Znt {N:Nat} {c:Cu} {k:Nat} (h:Bud c (k+1)):∃v c',Q83 N c=some (v,c')∧Bud c' k∧0≤v∧v≤255:=by
 have hp:=h.p;simp only[Q83,ilt_eq,len_eq];by_cases hl:c.2.1<c.1.length
 ·have hb:=h.b c.2.1.toNat (by omega)
  have e:icv .i64 (gd c.1 c.2.1.toNat 0)=gd c.1 c.2.1.toNat 0:=Zcg (by omega) (by omega);simp only[hl,Xf,Xd,Zf (ZaL hp hl),e];exact Zib h hb
 ·simp only[hl,Xg,Xe]
  exact Zib h (by omega)
theorem ZG {N:Nat} {c:Cu} {k:Nat} (n:Int) (h:Bud c (k+2)):∃v c',Q86 N c n=some (v,c')∧Bud c' k∧0≤v∧(v=0∨v<n):=by
 simp only[Q86,ile_eq,ilt_eq,ine_eq];by_cases h1:n≤1
 ·simp only[h1,Xf,Xd]
  exact ⟨0,c,rfl,h.mono (by omega),by omega, .inl rfl⟩
 ·have hn:¬n=0:=by omega
  obtain ⟨r,c1,e1,b1,v1,v1'⟩:=Znt (N:=N) h;simp only[h1,Xg,Xe,e1,Xa,hn,Bool.not_false,chk_true'];by_cases h2:200<n
  ·obtain ⟨r2,c2,e2,b2,v2,v2'⟩:=Znt (N:=N) b1
   simp only[h2,Xf,Xd,e2,Xa];rw[ZV (by omega) (by omega),Zh (by omega) (by omega)];have:=Zns (a:=r*256+r2) (n:=n) (by omega) (by omega);exact ⟨_,_,rfl,b2,this.1, .inr this.2⟩
  ·simp only[h2,Xg,Xe]
   have:=Zns (a:=r) (n:=n) (by omega) (by omega);exact ⟨_,_,rfl,b1.mono (by omega),this.1, .inr this.2⟩
theorem ZX {N:Nat} {c:Cu} {k:Nat} {list:List Int} (lo hi:Int) (hl:0<list.length) (hb:∀x,x∈list→lo≤x∧x≤hi) (h:Bud c (k+2)):∃v c',Q75 N c list=some (v,c')∧Bud c' k∧lo≤v∧v≤hi:=by
 obtain ⟨r,c1,e1,b1,v1,v1'⟩:=ZG (N:=N) (list.length:Int) h;have hr:r<list.length:=by omega
 simp only[Q75,len_eq,e1,Xa,Zf (ZaL v1 hr)];exact ⟨_,_,rfl,b1,hb _ (ZeG 0 (by omega))⟩
theorem Zg0 {N:Nat} {c:Cu} {k:Nat} (n:Int) (h:Bud c (k+2)):∃v c',Q85 N c n=some (v,c')∧Bud c' k:=by
 obtain ⟨r,c1,e1,b1,v1,v1'⟩:=ZG (N:=N) n h;simp only[Q85,e1,Xa];exact ⟨_,_,rfl,b1⟩
theorem ZiK {N:Nat} {cu:Cu} {v43:Cs}:∀d (cs:Cs),9 - cs.1.length=d→cs.2.1.length=cs.1.length→cs.2.2.1.length=cs.1.length→cs.2.2.2.length=cs.1.length→cs.1.length≤9→∃out:Cs,(∀m,d<m→Q87_L1 N m cu v43 cs=some (out,cu))∧Len9 out 9:=by
 intro d
 induction d with
 | zero=>
  intro cs hd h1 h2 h3 h0;refine ⟨cs,fun m hm=> ?_,⟨h0,by omega,by omega,by omega⟩⟩;obtain ⟨m,rfl⟩:∃q,m=q+1:=⟨m - 1,by omega⟩
  rw[Q87_L1_succ];simp only[Q87_B1,Q87_K2,ilt_eq,len_eq,show ¬(cs.1.length:Int)<9 by omega,Xg,Xe]
 | succ d ih=>
  intro cs hd h1 h2 h3 h0;obtain ⟨out,o1,o2⟩:=ih (cs.1++[1],(cs.2.1++[1],(cs.2.2.1++[1],cs.2.2.2++[1]))) (by simp;omega) (by simp;omega) (by simp;omega) (by simp;omega) (by simp;omega)
  refine ⟨out,fun m hm=> ?_,o2⟩;obtain ⟨m,rfl⟩:∃q,m=q+1:=⟨m - 1,by omega⟩
  rw[Q87_L1_succ];simp only[Q87_B1,ilt_eq,len_eq,show (cs.1.length:Int)<9 by omega,Xf,Xd,h1,h2,h3,Zf (Zn (n:=cs.1.length+1) (b:=8) (by omega) (by omega))];exact o1 m (by omega)
theorem ZjT {N:Nat} {cu:Cu} {n k:Nat} {v4 cs:Cs} (hN:4194304≤N) (hn:n≤8) (h0:cs.1.length=n) (h1:cs.2.1.length=n) (h2:cs.2.2.1.length=n) (h3:cs.2.2.2.length=n) (h:Bud cu (k+6)):∃out c',Q87_K3 N n cu v4 cs=some (out,c')∧Bud c' k∧Len9 out 9:=by
 have hc:Len9 cs 9:=⟨by omega,by omega,by omega,by omega⟩;simp only[Q87_K3,ilt_eq,ieq_eq];by_cases hp:(0:Int)<n
 ·obtain ⟨r,c1,e1,b1,v1,v1'⟩:=ZG (N:=N) (n:Int) h
  obtain ⟨r2,c2,e2,b2,v2,v2'⟩:=ZG (N:=N) 60 b1;have hr:r<n:=by omega
  simp only[hp,Xf,Xd,e1,e2,Xa];by_cases q0:r2=0
  ·obtain ⟨r3,c3,e3,b3,_⟩:=ZX (N:=N) (list:=[(-1),20,21,4611686018427387904]) (-1) 4611686018427387904 (by decide) (by decide) b2
   simp only[q0,Xf,Xd,e3,Xa,h0,Zf (ZaL v1 hr)];exact ⟨_,_,rfl,b3,⟨by simp [List.length_set];omega,hc.l1,hc.l2,hc.l3⟩⟩
  by_cases q1:r2=1
  ·obtain ⟨r3,c3,e3,b3,_⟩:=ZX (N:=N) (list:=[(-1),99,100]) (-1) 100 (by decide) (by decide) b2
   simp only[q0,q1,Xf,Xg,Xd,Xe,e3,Xa,h1,Zf (ZaL v1 hr)];exact ⟨_,_,rfl,b3,⟨hc.l0,by simp [List.length_set];omega,hc.l2,hc.l3⟩⟩
  by_cases q2:r2=2
  ·obtain ⟨r3,c3,e3,b3,_⟩:=ZX (N:=N) (list:=[(-1),9,10]) (-1) 10 (by decide) (by decide) b2
   simp only[q0,q1,q2,Xf,Xg,Xd,Xe,e3,Xa,h2,Zf (ZaL v1 hr)];exact ⟨_,_,rfl,b3,⟨hc.l0,hc.l1,by simp [List.length_set];omega,hc.l3⟩⟩
  by_cases q3:r2=3
  ·obtain ⟨r3,c3,e3,b3,_⟩:=ZX (N:=N) (list:=[(-1),9,10]) (-1) 10 (by decide) (by decide) b2
   simp only[q0,q1,q2,q3,Xf,Xg,Xd,Xe,e3,Xa,h3,Zf (ZaL v1 hr)];exact ⟨_,_,rfl,b3,⟨hc.l0,hc.l1,hc.l2,by simp [List.length_set];omega⟩⟩
  by_cases q4:r2=4
  ·simp only[q0,q1,q2,q3,q4,Xf,Xg,Xd,Xe,h2,Zf (Zn (n:=n+1) (b:=8) (by omega) (by omega))]
   exact ⟨_,_,rfl,b2.mono (by omega),⟨hc.l0,hc.l1,by simp;omega,hc.l3⟩⟩
  by_cases q5:r2=5
  ·obtain ⟨out,o1,o2⟩:=ZiK (N:=N) (cu:=c2) (v43:=v4) (9 - cs.1.length) cs rfl (by omega) (by omega) (by omega) (by omega)
   simp only[q0,q1,q2,q3,q4,q5,Xf,Xg,Xd,Xe];exact ⟨out,c2,o1 N (by omega),b2.mono (by omega),o2⟩
  ·simp only[q0,q1,q2,q3,q4,q5,Xg,Xe]
   exact ⟨_,_,rfl,b2.mono (by omega),hc⟩
 ·simp only[hp,Xg,Xe]
  exact ⟨_,_,rfl,h.mono (by omega),hc⟩
theorem ZiL {N:Nat} {n k:Nat} {v7:Bool} {v4:Cs} (hN:4194304≤N) (hn:n≤8):∀d i,n - i=d→i≤n→∀(v8 v9 v10:Int) (cu:Cu) (cs:Cs),cs.1.length=i→cs.2.1.length=i→cs.2.2.1.length=i→cs.2.2.2.length=i→Bud cu (k+6+8*d)→∃out c',(∀m,d<m→Q87_L2 N m n v7 v8 v9 v10 i cu v4 cs=some (out,c'))∧Bud c' k∧Len9 out 9:=by
 intro d
 induction d with
 | zero=>
  intro i hd hi v8 v9 v10 cu cs h0 h1 h2 h3 h;obtain rfl:i=n:=by omega
  obtain ⟨out,c',o1,o2,o3⟩:=ZjT (N:=N) (v4:=v4) hN hn h0 h1 h2 h3 (h.mono (show k+6≤k+6+8*0 by omega));refine ⟨out,c',fun m hm=> ?_,o2,o3⟩;obtain ⟨m,rfl⟩:∃q,m=q+1:=⟨m - 1,by omega⟩
  rw[Q87_L2_succ];simp only[Q87_B2,ilt_eq,Xn,Xg,Xe];exact o1
 | succ d ih=>
  intro i hd hi v8 v9 v10 cu cs h0 h1 h2 h3 h;have hil:i<n:=by omega
  have tail:∀(w8 w9 w10:Int) (c1:Cu),Bud c1 (k+6+8*d+2)→∃out c',(∀m,d<m→Q87_K1 N (fun v5 v7 v8 v9 v10 v11 app1 v4 v6=>Q87_L2 N m v5 v7 v8 v9 v10 v11 app1 v4 v6) n v7 w8 w9 w10 i c1 v4 cs=some (out,c'))∧Bud c' k∧Len9 out 9:=fun w8 w9 w10 c1 hb=>by
   obtain ⟨r,c2,e,b,_⟩:=ZX (N:=N) (list:=[0,1,2,3,5,8]) 0 8 (by decide) (by decide) hb;obtain ⟨out,c',o1,o2,o3⟩:=ih (i+1) (by omega) (by omega) w8 w9 w10 c2 (cs.1++[r],(cs.2.1++[w8],(cs.2.2.1++[w9],cs.2.2.2++[w10]))) (by simp;omega) (by simp;omega) (by simp;omega) (by simp;omega) b
   refine ⟨out,c',fun m hm=> ?_,o2,o3⟩;simp only[Q87_K1,e,Xa,h0,h1,h2,h3,Zf (Zn (n:=i+1) (b:=8) (by omega) (by omega)),Zc (show i<4611686018427387904 by omega)];exact o1 m hm
  cases hv:v7 with
  | true=>
   obtain ⟨out,c',o1,o2,o3⟩:=tail v8 v9 v10 cu (h.mono (by omega));refine ⟨out,c',fun m hm=> ?_,o2,o3⟩;obtain ⟨m,rfl⟩:∃q,m=q+1:=⟨m - 1,by omega⟩
   rw[Q87_L2_succ];simp only[Q87_B2,ilt_eq,Xk,hil,Xf,Xd,Bool.not_true,Xe];rw[←o1 m (by omega),hv]
  | false=>
   obtain ⟨r1,c1,e1,b1,_⟩:=ZX (N:=N) (list:=[0,2,5,9,14,30]) 0 30 (by decide) (by decide) (h.mono (show k+6+8*d+2+2+2+2≤k+6+8*(d+1) by omega))
   obtain ⟨r2,c2,e2,b2,_⟩:=ZG (N:=N) 5 b1;obtain ⟨r3,c3,e3,b3,_⟩:=ZG (N:=N) 4 b2;obtain ⟨out,c',o1,o2,o3⟩:=tail r1 r2 r3 c3 b3;refine ⟨out,c',fun m hm=> ?_,o2,o3⟩;obtain ⟨m,rfl⟩:∃q,m=q+1:=⟨m - 1,by omega⟩
   rw[Q87_L2_succ];simp only[Q87_B2,ilt_eq,Xk,hil,Xf,Xd,Bool.not_false,e1,e2,e3,Xa];rw[←o1 m (by omega),hv]
theorem ZkF {N:Nat} {cu:Cu} {k:Nat} {v1:Int} (hN:4194304≤N) (hv:0≤v1) (h:Bud cu (k+80)):∃out c',Q87 N cu v1=some (out,c')∧Bud c' k∧Len9 out 9:=by
 obtain ⟨r0,c0,e0,b0,v0,v0'⟩:=ZX (N:=N) (list:=[4,5,3,6,8,2,1,0]) 0 8 (by decide) (by decide) (h.mono (show k+70+2+2+2+2+2≤k+80 by omega));obtain ⟨r2,c2,e2,b2⟩:=Zg0 (N:=N) 2 b0;obtain ⟨r3,c3,e3,b3,_⟩:=ZX (N:=N) (list:=[0,3,5,8,12,20]) 0 20 (by decide) (by decide) b2;obtain ⟨r4,c4,e4,b4,_⟩:=ZG (N:=N) 3 b3;obtain ⟨r5,c5,e5,b5,_⟩:=ZG (N:=N) 2 b4;have hm:=Zcj (x:=r0) (y:=v1);obtain ⟨out,c',o1,o2,o3⟩:=ZiL (N:=N) (n:=(imin r0 v1).toNat) (k:=k) (v7:=r2) (v4:=([],([],([],[])))) hN (by omega) (imin r0 v1).toNat 0 (by omega) (by omega) r3 r4 (iadd .i64 1 r5) c5 ([],([],([],[]))) rfl rfl rfl rfl (b5.mono (by omega));refine ⟨out,c', ?_,o2,o3⟩;have:=o1 N (by omega);rw[show (((imin r0 v1).toNat:Nat):Int)=imin r0 v1 by omega] at this;simp only[Q87,e0,e2,e3,e4,e5,Xa,ZaZ];exact this
theorem Len9.smC {c:Cs} (h:Len9 c 9):SmC c:=⟨by have:=h.l0;omega,by have:=h.l1;omega,by have:=h.l2;omega,by have:=h.l3;omega⟩
theorem Zmm {N:Nat} {v6:Nat} {v3:Cs} {n:Nat} (hv:v6<n) (hn:n≤8):∀d (v7:Int),v7.toNat≤d→v7≤20→∀(k:Nat) (cu:Cu) (out:List Int),out.length=n→Bud cu (k+8*d)→∃out' c',(∀(kx:Int→Cu→Cs→List Int→Option (List Int×Cu)) (m:Nat),d<m→Q76_L1 N m kx v6 v7 cu v3 out=kx ((v6+1:Nat):Int) c' v3 out')∧Bud c' k∧out'.length=n:=by
 intro d
 induction d with
 | zero=>
  intro v7 hd h20 k cu out hl h;refine ⟨out,cu,fun kx m hm=> ?_,h.mono (by omega),hl⟩;obtain ⟨m,rfl⟩:∃q,m=q+1:=⟨m - 1,by omega⟩
  rw[Q76_L1_succ];simp only[Q76_B1,Q76_K2,ilt_eq,show ¬0<v7 by omega,Xg,Xe,Zc (show v6<4611686018427387904 by omega)]
 | succ d ih=>
  intro v7 hd h20 k cu out hl h;by_cases hp:0<v7
  ·have tail:∀(v8:Int) (c1:Cu),0≤v8→v8<n→Bud c1 (k+8*d+4)→∃out' c',(∀(kx:Int→Cu→Cs→List Int→Option (List Int×Cu)) (m:Nat),d<m→Q76_K1 N (fun v61 v7 app2 v31 v51=>Q76_L1 N m kx v61 v7 app2 v31 v51) v6 v7 v8 c1 v3 out=kx ((v6+1:Nat):Int) c' v3 out')∧Bud c' k∧out'.length=n:=fun v8 c1 g0 g1 hb=>by
    obtain ⟨r3,c3,e3,b3⟩:=Zg0 (N:=N) 2 (hb.mono (show k+8*d+2+2≤k+8*d+4 by omega));have hin:inB v8 out.length=true:=ZaL g0 (by omega);cases r3 with
    | true=>
     obtain ⟨r4,c4,e4,b4,w1,w2⟩:=ZG (N:=N) v7 b3;have e5:isub .i64 v7 (iadd .i64 1 r4)=v7 - (1+r4):=by rw[Zh (by omega) (by omega),Zv (by omega) (by omega)]
     obtain ⟨out',c',o1,o2,o3⟩:=ih (v7 - (1+r4)) (by omega) (by omega) k c4 (List.set out v8.toNat (iadd .i64 (gd out v8.toNat 0) (iadd .i64 1 r4))) (by rw[List.length_set];exact hl) b4
     refine ⟨out',c',fun kx m hm=> ?_,o2,o3⟩;simp only[Q76_K1,e3,e4,Xa,Xd,Zf hin,e5];exact o1 kx m hm
    | false=>
     have e5:isub .i64 v7 v7=0:=by rw[Zv (by omega) (by omega)];omega
     obtain ⟨out',c',o1,o2,o3⟩:=ih 0 (by omega) (by omega) k c3 (List.set out v8.toNat (iadd .i64 (gd out v8.toNat 0) v7)) (by rw[List.length_set];exact hl) (b3.mono (by omega))
     refine ⟨out',c',fun kx m hm=> ?_,o2,o3⟩;simp only[Q76_K1,e3,Xa,Xe,Zf hin,e5];exact o1 kx m hm
   obtain ⟨r1,c1,e1,b1⟩:=Zg0 (N:=N) 2 (h.mono (show k+8*d+4+2+2≤k+8*(d+1) by omega))
   cases hr:r1 with
   | true=>
    obtain ⟨r2,c2,e2,b2,w1,w2⟩:=ZG (N:=N) (iadd .i64 v6 1) b1;rw[Zc (show v6<4611686018427387904 by omega)] at w2;obtain ⟨out',c',o1,o2,o3⟩:=tail r2 c2 w1 (by omega) b2;refine ⟨out',c',fun kx m hm=> ?_,o2,o3⟩;obtain ⟨m,rfl⟩:∃q,m=q+1:=⟨m - 1,by omega⟩
    rw[Q76_L1_succ];simp only[Q76_B1,ilt_eq,hp,Xf,Xd,e1,hr,e2,Xa];exact o1 kx m (by omega)
   | false=>
    obtain ⟨out',c',o1,o2,o3⟩:=tail v6 c1 (by omega) (by omega) (b1.mono (by omega));refine ⟨out',c',fun kx m hm=> ?_,o2,o3⟩;obtain ⟨m,rfl⟩:∃q,m=q+1:=⟨m - 1,by omega⟩
    rw[Q76_L1_succ];simp only[Q76_B1,ilt_eq,hp,Xf,Xd,e1,hr,Xa,Xe];exact o1 kx m (by omega)
  ·refine ⟨out,cu,fun kx m hm=> ?_,h.mono (by omega),hl⟩
   obtain ⟨m,rfl⟩:∃q,m=q+1:=⟨m - 1,by omega⟩
   rw[Q76_L1_succ];simp only[Q76_B1,Q76_K2,ilt_eq,hp,Xg,Xe,Zc (show v6<4611686018427387904 by omega)]
theorem ZkG {N:Nat} {cu:Cu} {k n:Nat} {out:List Int} (hn:n≤8) (hl:out.length=n) (h:Bud cu (k+6)):∃out' c',Q76_K3 N cu out=some (out',c')∧Bud c' k∧out'.length≤9:=by
 obtain ⟨r,c1,e1,b1,v1,v1'⟩:=ZG (N:=N) 30 h;simp only[Q76_K3,e1,Xa,ieq_eq,ilt_eq,len_eq];by_cases q0:r=0
 ·obtain ⟨r3,c3,e3,b3,_⟩:=ZX (N:=N) (list:=[0,1]) 0 1 (by decide) (by decide) b1
  simp only[q0,Xf,Xd,e3,Xa,hl,Zf (Zn (n:=n+1) (b:=8) (by omega) (by omega))];exact ⟨_,_,rfl,b3.mono (by omega),by simp;omega⟩
 by_cases q1:r=1
 ·by_cases hp:(0:Int)<out.length
  ·obtain ⟨r3,c3,e3,b3,w,w'⟩:=ZG (N:=N) (out.length:Int) b1
   obtain ⟨r4,c4,e4,b4,_⟩:=ZX (N:=N) (list:=[1,(-1),4611686018427387904,(-9223372036854775808)]) (-9223372036854775808) 4611686018427387904 (by decide) (by decide) b3;have hin:inB r3 out.length=true:=ZaL w (by omega);simp only[q0,q1,hp,Xf,Xg,Xd,Xe,e3,e4,Xa,Zf hin];exact ⟨_,_,rfl,b4.mono (by omega),by simp;omega⟩
  ·simp only[q0,q1,hp,Xf,Xg,Xd,Xe]
   exact ⟨_,_,rfl,b1.mono (by omega),by omega⟩
 ·simp only[q0,q1,Xg,Xe]
  exact ⟨_,_,rfl,b1.mono (by omega),by omega⟩
theorem ZjU {N:Nat} {v3:Cs} (hc:CaseP v3) (hN:4194304≤N):∀d i,v3.1.length - i=d→i≤v3.1.length→∀(k:Nat) (cu:Cu) (out:List Int),out.length=v3.1.length→Bud cu (k+6+160*d)→∃out' c',(∀m,d<m→Q76_L2 N m i cu v3 out=some (out',c'))∧Bud c' k∧out'.length≤9:=by
 have h8:=hc.n;intro d
 induction d with
 | zero=>
  intro i hd hi k cu out hl h;obtain ⟨out',c',o1,o2,o3⟩:=ZkG (N:=N) h8 hl (h.mono (show k+6≤k+6+160*0 by omega));refine ⟨out',c',fun m hm=> ?_,o2,o3⟩;obtain ⟨m,rfl⟩:∃q,m=q+1:=⟨m - 1,by omega⟩
  rw[Q76_L2_succ];simp only[Q76_B2,ilt_eq,len_eq,Xk,show ¬i<v3.1.length by omega,Xg,Xe];exact o1
 | succ d ih=>
  intro i hd hi k cu out hl h;have hil:i<v3.1.length:=by omega
  have hb:=hc.b0 i hil;obtain ⟨out1,c1,s1,s2,s3⟩:=Zmm (N:=N) (v6:=i) (v3:=v3) (n:=v3.1.length) hil h8 20 (gd v3.1 i 0) (by omega) (by omega) (k+6+160*d) cu out hl (h.mono (by omega));obtain ⟨out',c',o1,o2,o3⟩:=ih (i+1) (by omega) (by omega) k c1 out1 s3 s2;refine ⟨out',c',fun m hm=> ?_,o2,o3⟩;obtain ⟨m,rfl⟩:∃q,m=q+1:=⟨m - 1,by omega⟩
  rw[Q76_L2_succ];simp only[Q76_B2,ilt_eq,len_eq,Xk,hil,Xf,Xd,Zf (Zb hil),Xj];rw[s1 _ N (by omega)];exact o1 m (by omega)
theorem Zmn {N:Nat} {cu:Cu} {k:Nat} {c:Cs} (hc:Len9 c 9) (hN:4194304≤N) (h:Bud cu (k+1300)):∃out' c',Q76 N cu c=some (out',c')∧Bud c' k∧out'.length≤9:=by
 have l0:=hc.l0;simp only[Q76,len_eq,Zf (ZjP (n:=c.1.length) (b:=8) (by omega) (by omega)),ZL hc.smC hN,Xa,Xj,Zt];cases hb:caseB c with
 | false=>exact ⟨_,_,rfl,h.mono (by omega),by simp;omega⟩
 | true=>
  have hP:=ZB.1 hb;have h8:=hP.n;obtain ⟨out',c',o1,o2,o3⟩:=ZjU (N:=N) hP hN c.1.length 0 (by omega) (by omega) k cu (List.replicate c.1.length 0) (by simp) (h.mono (by omega));exact ⟨out',c',o1 N (by omega),o2,o3⟩
end Go.Rx.Px
namespace Go.Rx
theorem ZjV (a:Int) (f:Nat→Int):∀n,rsum (fun i=>a*f i) n=a*rsum f n
 | 0=>by simp [rsum]
 | n+1=>by simp only[rsum,ZjV a f n,Int.mul_add]
theorem rsum_one {p:Nat} (v:Nat→Int):∀n,rsum (fun q=>if q=p then v q else 0) n=if p<n then v p else 0
 | 0=>by simp [rsum]
 | n+1=>by
  simp only[rsum,rsum_one v n];by_cases e:n=p
  ·subst e;simp
  ·rw[if_neg e]
   by_cases h:p<n
   ·rw[if_pos h,if_pos (by omega)];omega
   ·rw[if_neg h,if_neg (by omega)];rfl
theorem ZoU (xs:List Int) {p k:Nat} (hpk:p≤k):∀n,k≤n→n≤xs.length→rsum (fun t=>if p≤t∧t<k then gd xs t 0 else 0) n=psum xs k - psum xs p:=fun n hk hn=>by
 have h:=ZiH (xs:=xs) (i:=p) (t:=k) hpk (fun t=>if p≤t∧t<k then gd xs t 0 else 0) (fun q hq=>by rw[if_neg (by omega)]) (fun q h1 h2=>by rw[if_pos ⟨h1,h2⟩]) (fun q h1 h2=>by rw[if_neg (by omega)]) (by omega) n hn
 rw[h];by_cases h1:n≤p
 ·rw[if_pos h1];obtain rfl:p=k:=by omega
  omega
 ·rw[if_neg h1]
  by_cases h2:n≤k
  ·rw[if_pos h2];obtain rfl:n=k:=by omega
   rfl
  ·rw[if_neg h2]
end Go.Rx
namespace Go.Rx.Px
def stK (S:Nat→Bool) (need:List Int) (k t:Nat):Int:=psum (planL S need k) t - psum need (min t k)
theorem planL_len' (S:Nat→Bool) (need:List Int) (k:Nat):(planL S need k).length=need.length:=ZbY S need k
theorem ZoV {S:Nat→Bool} {need:List Int} {k p t:Nat} (h:own S k=some p) (hk:k<need.length) (ht:t≤need.length):stK S need (k+1) t=stK S need k t+(if p<t∧t≤k then gd need k 0 else 0):=by
 have hp:=(ZbF h).1;simp only[stK,Zh6 h (show p<need.length by omega)];rw[Zlw _ (by rw[planL_len'];omega) (by rw[planL_len'];exact ht),ZcQ S need k (show p<need.length by omega)]
 by_cases c1:t≤k
 ·rw[Nat.min_eq_left c1,Nat.min_eq_left (show t≤k+1 by omega)]
  by_cases c2:p<t
  ·rw[if_pos c2,if_pos ⟨c2,c1⟩];omega
  ·rw[if_neg c2,if_neg (fun h=>c2 h.1)];omega
 ·rw[Nat.min_eq_right (show k≤t by omega),Nat.min_eq_right (show k+1≤t by omega),psum_succ hk,if_pos (by omega),if_neg (fun h=>c1 h.2)];omega
theorem ZoW {S:Nat→Bool} {need:List Int} {k t:Nat} (h:own S k=none) (hz:gd need k 0=0) (hk:k<need.length):stK S need (k+1) t=stK S need k t:=by
 simp only[stK,Zh5 h];by_cases c1:t≤k
 ·rw[Nat.min_eq_left c1,Nat.min_eq_left (show t≤k+1 by omega)]
 ·rw[Nat.min_eq_right (show k≤t by omega),Nat.min_eq_right (show k+1≤t by omega),psum_succ hk,hz];omega
theorem Zlx {c:Cs} (hc:CaseP c) {S:Nat→Bool} (hS:covS S c.1=true) {k:Nat} (hk:k<c.1.length) (h:own S k=none):gd c.1 k 0=0:=by
 have h1:=Zbz.1 hS k hk;simp only[h,Xf,Bool.not_true,Bool.false_or,Bool.not_eq_true',decide_eq_false_iff_not] at h1;have:=hc.b0 k hk;omega
def gT (S:Nat→Bool) (c:Cs) (t:Nat):Int:=match own S t with | some p=>gd c.1 t 0*rateOf c p t | none=>0
theorem Zmo (n:Nat):∀t,psum (List.replicate n (0:Int)) t=0
 | t=>by
  simp only[psum,List.take_replicate];generalize min t n=m
  induction m with
  | zero=>rfl
  | succ m ih=>rw[List.replicate_succ,List.sum_cons,ih];rfl
theorem ZqJ {c:Cs} (hc:CaseP c) {S:Nat→Bool} (hS:covS S c.1=true):∀k,k≤c.1.length→rsum (fun q=>gd c.2.2.1 q 0*planV S c.1 k q) c.1.length+rsum (fun t=>gd c.2.2.2 t 0*stK S c.1 k (t+1)) c.1.length=rsum (gT S c) k
 | 0,_=>by
  have e1:rsum (fun q=>gd c.2.2.1 q 0*planV S c.1 0 q) c.1.length=0:=Za1 fun q _=>by simp [planV,rsum]
  have e2:rsum (fun t=>gd c.2.2.2 t 0*stK S c.1 0 (t+1)) c.1.length=0:=Za1 fun t _=>by
   simp [stK,Zh7,Zmo,ZeH]
  rw[e1,e2];rfl
 | k+1,hk=>by
  have ih:=ZqJ hc hS k (by omega);simp only[rsum,←ih];cases ho:own S k with
  | none=>
   have hz:=Zlx hc hS (by omega) ho;have e1:rsum (fun q=>gd c.2.2.1 q 0*planV S c.1 (k+1) q) c.1.length=rsum (fun q=>gd c.2.2.1 q 0*planV S c.1 k q) c.1.length:=Zaa fun q _=>by simp [planV,rsum,ho]
   have e2:rsum (fun t=>gd c.2.2.2 t 0*stK S c.1 (k+1) (t+1)) c.1.length=rsum (fun t=>gd c.2.2.2 t 0*stK S c.1 k (t+1)) c.1.length:=Zaa fun t _=>by rw[ZoW ho hz (by omega)]
   rw[e1,e2];simp [gT,ho]
  | some p=>
   have hp:=(ZbF ho).1;have e1:rsum (fun q=>gd c.2.2.1 q 0*planV S c.1 (k+1) q) c.1.length=rsum (fun q=>gd c.2.2.1 q 0*planV S c.1 k q) c.1.length+gd c.2.2.1 p 0*gd c.1 k 0:=by
    rw[←(show rsum (fun q=>if q=p then gd c.2.2.1 q 0*gd c.1 k 0 else 0) c.1.length=gd c.2.2.1 p 0*gd c.1 k 0 by rw[rsum_one (fun q=>gd c.2.2.1 q 0*gd c.1 k 0),if_pos (by omega)]),←ZiF];refine Zaa fun q _=> ?_
    simp only[planV,rsum,ho,Option.some.injEq];by_cases e:q=p
    ·subst e;rw[if_pos rfl,if_pos rfl,Int.mul_add]
    ·rw[if_neg (fun h=>e h.symm),if_neg e];simp
   have e2:rsum (fun t=>gd c.2.2.2 t 0*stK S c.1 (k+1) (t+1)) c.1.length=rsum (fun t=>gd c.2.2.2 t 0*stK S c.1 k (t+1)) c.1.length+gd c.1 k 0*(psum c.2.2.2 k - psum c.2.2.2 p):=by
    rw[←ZoU c.2.2.2 hp c.1.length (by omega) (by have:=hc.l3;omega),←ZjV,←ZiF]
    refine Zaa fun t ht=> ?_
    rw[ZoV ho (by omega) (by omega)];by_cases e:p≤t∧t<k
    ·rw[if_pos (by omega),if_pos e,Int.mul_add,Int.mul_comm (gd c.1 k 0)]
    ·rw[if_neg (by omega),if_neg e];simp
   rw[e1,e2];simp only[gT,ho,rateOf,Int.mul_add,Int.mul_comm (gd c.2.2.1 p 0)];omega
theorem Zp3 (S:Nat→Bool) (c:Cs) {t:Nat} (ht:t≤c.1.length):stK S c.1 c.1.length t=stockAt (planS S c.1) c.1 t:=by
 simp only[stK,stockAt,planS,Nat.min_eq_left ht]
theorem Zg1 {c:Cs} (hc:CaseP c) {S:Nat→Bool} (hS:covS S c.1=true):costOf c (planS S c.1)=rsum (fSet c (planS S c.1)) c.1.length+rsum (gT S c) c.1.length:=by
 have hl:(planS S c.1).length=c.1.length:=ZbY _ _ _;have h:=ZqJ hc hS c.1.length (Xl _);simp only[costOf,hl];rw[←h,Int.add_assoc]
 congr 1
 congr 1
 ·exact Zaa fun q hq=>by simp only[fUnit,planS,ZcQ S c.1 _ hq]
 ·exact Zaa fun t ht=>by simp only[fHold,Zp3 S c (show t+1≤c.1.length by omega)]
def tailC (S:Nat→Bool) (c:Cs) (k:Nat):Int:=(rsum (fSet c (planS S c.1)) c.1.length - rsum (fSet c (planS S c.1)) k)+(rsum (gT S c) c.1.length - rsum (gT S c) k)
theorem Zgi (S:Nat→Bool) (c:Cs):tailC S c c.1.length=0:=by simp [tailC]
theorem Znu {c:Cs} (hc:CaseP c) {S:Nat→Bool} (hS:covS S c.1=true):tailC S c 0=costOf c (planS S c.1):=by
 rw[Zg1 hc hS];simp [tailC,rsum]
theorem Zp4 {S:Nat→Bool} {i t:Nat} (hS:S i=true) (hit:i<t) (hg:∀q,i<q→q<t→S q=false):cnt S t=cnt S i+1:=by
 have h1:cnt S (i+1)=cnt S i+1:=by rw[cnt_succ,hS];rfl
 have h2:pns S t=pns S (i+1):=ZkE (i:=i+1) (by omega) (fun q h1 h2=>hg q (by omega) h2)
 rw[←h1];simp only[cnt,h2]
theorem Zg2 {f:Nat→Int} {n:Nat} (hf:∀i,i<n→0≤f i) (hz:rsum f n=0):∀i,i<n→f i=0:=by
 induction n with
 | zero=>intro i hi;omega
 | succ n ih=>
  simp only[rsum] at hz;have hn:0≤rsum f n:=by
   clear ih hz
   induction n with
   | zero=>exact Int.le_refl _
   | succ n ih2=>simp only[rsum];have:=ih2 (fun i hi=>hf i (by omega));have:=hf n (by omega);omega
  have h2:=hf n (by omega);intro i hi;by_cases e:i=n
  ·subst e;omega
  ·exact ih (fun i hi=>hf i (by omega)) (by omega) i (by omega)
theorem Zg3 {xs:List Int} {i:Nat}:∀k,i+k≤xs.length→psum xs (i+k) - psum xs i=rsum (fun q=>gd xs (i+q) 0) k
 | 0,_=>by simp [rsum]
 | k+1,h=>by
  have:=Zg3 (xs:=xs) (i:=i) k (by omega);rw[←Nat.add_assoc,psum_succ (by omega)];simp only[rsum];omega
theorem Zic {c:Cs} (hc:CaseP c) {S:Nat→Bool} {i t:Nat} (hS:S i=true) (hit:i<t) (ht:t≤c.1.length) (hg:∀q,i<q→q<t→S q=false) (hend:t=c.1.length∨S t=true):tailC S c i=spanOf c i t+tailC S c t:=by
 have hcnt:=Zp4 hS hit hg;obtain ⟨k,rfl⟩:∃k,t=i+k:=⟨t - i,by omega⟩
 have hown:∀q,q<k→own S (i+q)=some i:=fun q hq=>(Znl hS hcnt (.inr fun _ _=> .inr trivial) (by omega)).2 (by omega)
 have hpl:∀q,q<c.1.length→gd (planS S c.1) q 0=planV S c.1 c.1.length q:=fun q hq=>ZcQ S c.1 _ hq
 have eG:rsum (gT S c) (i+k)=rsum (gT S c) i+spanV c i k:=by
  rw[Zcw,spanV]
  congr 1
  exact Zaa fun q hq=>by simp only[gT,hown q hq]
 have hpi:=Zls hS hit ht hcnt hend;have eH:rsum (fSet c (planS S c.1)) (i+k)=rsum (fSet c (planS S c.1)) i+ifpos (psum c.1 (i+k) - psum c.1 i) (gd c.2.1 i 0):=by
  rw[Zcw]
  congr 1
  obtain ⟨m,rfl⟩:∃m,k=1+m:=⟨k - 1,by omega⟩
  rw[Zcw];have e1:rsum (fun q=>fSet c (planS S c.1) (i+q)) 1=ifpos (psum c.1 (i+(1+m)) - psum c.1 i) (gd c.2.1 i 0):=by
   simp only[rsum,fSet,Nat.add_zero,hpl i (by omega),hpi];omega
  have e2:rsum (fun q=>fSet c (planS S c.1) (i+(1+q))) m=0:=Za1 fun q hq=>by
   simp only[fSet,hpl (i+(1+q)) (by omega),ZgV (hg (i+(1+q)) (by omega) (by omega))];simp [ifpos]
  rw[e1,e2];omega
 simp only[tailC,eG,eH,spanOf,show i+k - i=k by omega];have hm:=Zcv hc.b0 (show i≤i+k by omega) ht;by_cases hz:psum c.1 (i+k) - psum c.1 i=0
 ·have hsv:spanV c i k=0:=by
   rw[Zg3 k ht] at hz;have h0:=Zg2 (fun q hq=>(hc.b0 (i+q) (by omega)).1) hz
   exact Za1 fun q hq=>by rw[h0 q hq];simp
  rw[if_pos hz,hsv,hz];simp [ifpos]
 ·rw[if_neg hz]
  simp only[ifpos,show 0<psum c.1 (i+k) - psum c.1 i by omega,if_true];omega
theorem Zp5 (S:Nat→Bool) {n i:Nat} (hi:i<n):∃t,i<t∧t≤n∧(∀q,i<q→q<t→S q=false)∧(t=n∨S t=true):=by
 rcases ZZ (fun d=> !S (i+1+d)) (n - i - 1) with h | ⟨j,hj,hb,hat⟩
 ·refine ⟨n,hi,Xl _,fun q h1 h2=> ?_, .inl rfl⟩
  have:=h (q - i - 1) (by omega);rw[show i+1+(q - i - 1)=q by omega] at this
  simpa using this
 ·refine ⟨i+1+j,by omega,by omega,fun q h1 h2=> ?_, .inr (by simpa using hat)⟩
  have:=hb (q - i - 1) (by omega);rw[show i+1+(q - i - 1)=q by omega] at this
  simpa using this
theorem Zfr (c:Cs) {i j:Nat} {out:List Int} (hi:i<out.length) (hj:j≠i):∀k,gd (bwIn c i out k) j 0=gd out j 0
 | 0=>rfl
 | k+1=>by
  simp only[bwIn];rw[Zh9 (by rw[ZcR];exact hi),if_neg hj,Zfr c hi hj k]
theorem Znv (c:Cs) {i:Nat} {out:List Int} (hi:i<out.length):∀k,(gd (bwIn c i out k) i 0≤gd out i 0∧∀q,q<k→gd (bwIn c i out k) i 0≤spanOf c i (i+1+q)+gd out (i+1+q) 0)∧(gd (bwIn c i out k) i 0=gd out i 0∨∃q,q<k∧gd (bwIn c i out k) i 0=spanOf c i (i+1+q)+gd out (i+1+q) 0)
 | 0=>⟨⟨Int.le_refl _,fun q hq=>by omega⟩, .inl rfl⟩
 | k+1=>by
  obtain ⟨⟨h1,h2⟩,h3⟩:=Znv c hi k;have e:gd (bwIn c i out (k+1)) i 0=imin (gd (bwIn c i out k) i 0) (spanOf c i (i+1+k)+gd out (i+1+k) 0):=by
   simp only[bwIn];rw[Zh9 (by rw[ZcR];exact hi),if_pos rfl,Zfr c hi (show i+1+k≠i by omega) k]
  have hm:=Zcj (x:=gd (bwIn c i out k) i 0) (y:=spanOf c i (i+1+k)+gd out (i+1+k) 0);rw[←e] at hm;refine ⟨⟨by omega,fun q hq=> ?_⟩, ?_⟩
  ·by_cases eq:q=k
   ·subst eq;exact hm.2.1
   ·have:=h2 q (by omega);omega
  ·rcases hm.2.2 with h | h
   ·rcases h3 with h4 | ⟨q,h4,h5⟩
    ·exact .inl (by omega)
    ·exact .inr ⟨q,by omega,by omega⟩
   ·exact .inr ⟨k,by omega,h⟩
def bw (c:Cs) (i:Nat):Int:=gd (bwL c) i 0
theorem Zmp (c:Cs) {d:Nat} (hd:d<c.1.length) {j:Nat} (hj:j≠c.1.length - 1 - d):gd (bwOut c (d+1)) j 0=gd (bwOut c d) j 0:=by
 simp only[bwOut];rw[Zfr c (by rw[List.length_set,Zaw];omega) hj,Zh9 (by rw[Zaw];omega),if_neg hj]
theorem Zg4 (c:Cs) {d:Nat}:∀e,d+e≤c.1.length→∀j,c.1.length - d≤j→gd (bwOut c (d+e)) j 0=gd (bwOut c d) j 0
 | 0,_,_,_=>rfl
 | e+1,he,j,hj=>by
  rw[←Nat.add_assoc,Zmp c (by omega) (by omega),Zg4 c e (by omega) j hj]
theorem Zp6 (c:Cs) {d j:Nat} (hd:d≤c.1.length) (hj:c.1.length - d≤j):gd (bwOut c d) j 0=bw c j:=by
 have:=Zg4 c (d:=d) (c.1.length - d) (by omega) j hj;rw[show d+(c.1.length - d)=c.1.length by omega] at this;exact this.symm
theorem Znw (c:Cs):bw c c.1.length=0:=by
 rw[←Zp6 c (d:=0) (by omega) (by omega)];simp only[bwOut,gd,List.getD_eq_getElem?_getD];simp
theorem ZkH {c:Cs} {i:Nat} (hi:i<c.1.length):(∀j,i<j→j≤c.1.length→bw c i≤spanOf c i j+bw c j)∧∃j,i<j∧j≤c.1.length∧bw c i=spanOf c i j+bw c j:=by
 have hi2:c.1.length - 1 - (c.1.length - 1 - i)=i:=by omega
 have e0:bw c i=gd (bwOut c (c.1.length - 1 - i+1)) i 0:=(Zp6 c (by omega) (by omega)).symm;have hlen:i<(List.set (bwOut c (c.1.length - 1 - i)) i (spanOf c i c.1.length)).length:=by rw[List.length_set,Zaw];omega
 obtain ⟨⟨h1,h2⟩,h3⟩:=Znv c hlen (c.1.length - 1 - i);have e1:gd (bwIn c i (List.set (bwOut c (c.1.length - 1 - i)) i (spanOf c i c.1.length)) (c.1.length - 1 - i)) i 0=bw c i:=by rw[e0];simp only[bwOut,hi2]
 rw[e1] at h1 h2 h3;have e2:gd (List.set (bwOut c (c.1.length - 1 - i)) i (spanOf c i c.1.length)) i 0=spanOf c i c.1.length:=by rw[Zh9 (by rw[Zaw];omega),if_pos rfl]
 have e3:∀j,i<j→gd (List.set (bwOut c (c.1.length - 1 - i)) i (spanOf c i c.1.length)) j 0=bw c j:=fun j hj=>by
  rw[Zh9 (by rw[Zaw];omega),if_neg (by omega)]
  exact Zp6 c (by omega) (by omega)
 rw[e2] at h1 h3;have hz:=Znw c;refine ⟨fun j hj hjn=> ?_, ?_⟩
 ·by_cases e:j=c.1.length
  ·subst e;omega
  ·have:=h2 (j - i - 1) (by omega)
   rw[show i+1+(j - i - 1)=j by omega,e3 j hj] at this;exact this
 ·rcases h3 with h | ⟨q,hq,h⟩
  ·exact ⟨c.1.length,hi,Xl _,by omega⟩
  ·rw[e3 (i+1+q) (by omega)] at h
   exact ⟨i+1+q,by omega,by omega,h⟩
theorem Zq7 {c:Cs} (hc:CaseP c) {S:Nat→Bool}:∀d i,c.1.length - i=d→i≤c.1.length→(i=c.1.length∨S i=true)→bw c i≤tailC S c i:=by
 intro d
 induction d using Nat.strongRecOn with
 | ind d ih=>
  intro i hd hi hS;rcases Nat.lt_or_ge i c.1.length with h | h
  ·have hSi : S i = true := by rcases hS with e | e; · omega
                               ·exact e
   obtain ⟨t,t1,t2,t3,t4⟩:=Zp5 S h;rw[Zic hc hSi t1 t2 t3 t4];have h1:=(ZkH h).1 t t1 t2;have h2:=ih (c.1.length - t) (by omega) t rfl t2 t4;omega
  ·obtain rfl:i=c.1.length:=by omega
   rw[Znw,Zgi];exact Int.le_refl _
end Go.Rx.Px
namespace Go.Rx
theorem ZjW {S:Nat→Bool} {p k:Nat} (h:∀q,q<p→S q=false) (hk:k<p):own S k=none:=by
 rcases ZfH S k with ⟨h1,_⟩ | ⟨q,_,h2,h3,_⟩
 ·exact h1
 ·rw[h q (by omega)] at h3;cases h3
theorem ZjX {S T:Nat→Bool} {j:Nat} (hT:T j=true) (h:∀q,j≤q→S q=T q):∀k,j≤k→own S k=own T k
 | 0,hk=>by
  obtain rfl:j=0:=by omega
  simp only[own,h 0 (Xl _)]
 | k+1,hk=>by
  by_cases e:j=k+1
  ·have h1:S (k+1)=true:=by rw[h _ hk,←e];exact hT
   have h2:T (k+1)=true:=by rw[←e];exact hT
   simp only[own,h1,h2,if_true]
  ·simp only[own,h (k+1) hk,ZjX hT h k (by omega)]
theorem ZkI (S:Nat→Bool):∀n,∃k,k<2 ^ n∧∀q,q<n→k.testBit q=S q
 | 0=>⟨0,by simp,fun q hq=>by omega⟩
 | n+1=>by
  obtain ⟨k,h1,h2⟩:=ZkI S n;have hp:2 ^ (n+1)=2 ^ n+2 ^ n:=by rw[Nat.pow_succ];omega
  have hb:k.testBit n=false:=Nat.testBit_lt_two_pow h1;cases hS:S n with
  | false=>
   refine ⟨k,by omega,fun q hq=> ?_⟩;by_cases e:q=n
   ·subst e;rw[hb,hS]
   ·exact h2 q (by omega)
  | true=>
   refine ⟨2 ^ n+k,by omega,fun q hq=> ?_⟩;by_cases e:q=n
   ·subst e;rw[Nat.testBit_two_pow_add_eq,hb,hS];rfl
   ·rw[Nat.testBit_two_pow_add_gt (show q<n by omega)];exact h2 q (by omega)
end Go.Rx
namespace Go.Rx.Px
theorem Znx {S T:Nat→Bool} {need:List Int} (h:∀q,q<need.length→S q=T q):planS S need=planS T need:=ZaE fun t _=>by
 simp only[planV];exact Zaa fun k hk=>by rw[ZgZ (S:=S) (T:=T) (k:=k) fun q hq=>h q (by omega)]
theorem ZoX {S T:Nat→Bool} {need:List Int} (h:∀q,q<need.length→S q=T q):covS S need=covS T need:=by
 rw[Bool.eq_iff_iff];simp only[covS,Zbz];constructor
 ·intro h1 k hk;rw[←ZgZ (S:=S) (T:=T) (k:=k) fun q hq=>h q (by omega)];exact h1 k hk
 ·intro h1 k hk;rw[ZgZ (S:=S) (T:=T) (k:=k) fun q hq=>h q (by omega)];exact h1 k hk
theorem Zg5 {f:Nat→Int}:∀ {n:Nat},(∀i,i<n→0≤f i)→0≤rsum f n
 | 0,_=>Int.le_refl _
 | n+1,h=>by simp only[rsum];have:=Zg5 (n:=n) (fun i hi=>h i (by omega));have:=h n (by omega);omega
theorem Zny {c:Cs} (hc:CaseP c) {S:Nat→Bool} (hS:covS S c.1=true):0≤costOf c (planS S c.1):=by
 rw[Zg1 hc hS];have h1:0≤rsum (fSet c (planS S c.1)) c.1.length:=Zg5 fun i hi=>(ZiG (hc.b1 i (by have:=hc.l1;omega))).1
 have h2:0≤rsum (gT S c) c.1.length:=Zg5 fun i hi=>by
  simp only[gT];cases ho:own S i with
  | none=>exact Int.le_refl _
  | some p=>
   have hp:=(ZbF ho).1;exact Int.mul_nonneg (hc.b0 i hi).1 (Zci hc (i:=p) (t:=i) (by omega) hp (by omega)).1
 omega
theorem ZoY {c:Cs} {S T:Nat→Bool} {j:Nat} (hj:j≤c.1.length) (hT:j=c.1.length∨T j=true) (h:∀q,j≤q→S q=T q):tailC S c j=tailC T c j:=by
 by_cases e:j=c.1.length
 ·rw[e,Zgi,Zgi]
 ·have hTj : T j = true := by rcases hT with h1 | h1; · exact absurd h1 e
                              ·exact h1
  have ho:=ZjX hTj h;have key:∀f:Nat→Int,rsum f c.1.length - rsum f j=rsum (fun q=>f (j+q)) (c.1.length - j):=fun f=>by
   have:=Zcw f j (c.1.length - j);rw[show j+(c.1.length - j)=c.1.length by omega] at this;omega
  simp only[tailC,key]
  congr 1
  ·refine Zaa fun q hq=> ?_
   have hv:planV S c.1 c.1.length (j+q)=planV T c.1 c.1.length (j+q):=by
    refine Zaa fun k hk=> ?_
    rcases Nat.lt_or_ge k j with h1 | h1
    ·rw[if_neg (fun h2=>by have:=(ZbF h2).1;omega),if_neg (fun h2=>by have:=(ZbF h2).1;omega)]
    ·rw[ho k h1]
   simp only[fSet,planS,ZcQ _ c.1 _ (show j+q<c.1.length by omega),hv]
  ·exact Zaa fun q hq=>by simp only[gT,ho (j+q) (by omega)]
theorem ZoZ {c:Cs} (hc:CaseP c):∀d i,c.1.length - i=d→i≤c.1.length→∃S:Nat→Bool,(∀k,k<i→S k=false)∧(i<c.1.length→S i=true)∧tailC S c i=bw c i:=by
 intro d
 induction d using Nat.strongRecOn with
 | ind d ih=>
  intro i hd hi;rcases Nat.lt_or_ge i c.1.length with h | h
  ·obtain ⟨j,j1,j2,j3⟩:=(ZkH h).2
   obtain ⟨T,t1,t2,t3⟩:=ih (c.1.length - j) (by omega) j rfl j2;have hT:j=c.1.length∨T j=true:=by
    rcases Nat.lt_or_ge j c.1.length with e | e
    ·exact .inr (t2 e)
    ·exact .inl (by omega)
   refine ⟨fun k=>T k || decide (k=i),fun k hk=> ?_,fun _=>by simp, ?_⟩
   ·simp [t1 k (by omega)];omega
   ·rw[Zic hc (S:=fun k=>T k || decide (k=i)) (i:=i) (t:=j) (by simp) j1 j2 (fun q h1 h2=>by simp [t1 q h2];omega) (by
     rcases hT with e | e
     ·exact .inl e
     ·exact .inr (by simp [e])),j3,←t3,ZoY j2 hT (fun q hq=>by simp;omega)]
  ·obtain rfl:i=c.1.length:=by omega
   exact ⟨fun _=>false,fun _ _=>rfl,fun h=>by omega,by rw[Zgi,Znw]⟩
theorem Zmq {c:Cs} (hc:CaseP c) {S:Nat→Bool} (hS:covS S c.1=true):bw c 0≤costOf c (planS S c.1):=by
 obtain ⟨p,p1,p2,p3⟩:∃p,p≤c.1.length∧(∀q,q<p→S q=false)∧(p=c.1.length∨S p=true):=by
  rcases ZZ (fun q=> !S q) c.1.length with h | ⟨j,hj,hb,hat⟩
  ·exact ⟨c.1.length,Xl _,fun q hq=>by simpa using h q hq, .inl rfl⟩
  ·exact ⟨j,by omega,fun q hq=>by simpa using hb q hq, .inr (by simpa using hat)⟩
 have hz:∀q,q<p→gd c.1 q 0=0:=fun q hq=>Zlx hc hS (by omega) (ZjW p2 hq)
 have h1:=Zq7 hc (S:=S) (c.1.length - p) p rfl p1 p3;have e1:rsum (fSet c (planS S c.1)) p=0:=Za1 fun q hq=>by
  simp only[fSet,planS,ZcQ S c.1 _ (show q<c.1.length by omega),ZgV (p2 q hq)];simp [ifpos]
 have e2:rsum (gT S c) p=0:=Za1 fun q hq=>by simp only[gT,ZjW p2 hq]
 have h2:tailC S c p=costOf c (planS S c.1):=by
  rw[Zg1 hc hS];simp only[tailC,e1,e2];omega
 rw[h2] at h1;rcases Nat.eq_zero_or_pos p with e | e
 ·subst e;exact h1
 ·have h3:=(ZkH (c:=c) (i:=0) (by omega)).1 p e p1
  have h4:spanOf c 0 p=0:=by
   have:psum c.1 (0+p) - psum c.1 0=0:=by
    rw[Zg3 p (by omega)];exact Za1 fun q hq=>by rw[Nat.zero_add];exact hz q hq
   rw[Nat.zero_add] at this;simp only[spanOf,this,if_true]
  omega
theorem ZiM {c:Cs} (hc:CaseP c):∃S:Nat→Bool,covS S c.1=true∧costOf c (planS S c.1)=bw c 0:=by
 obtain ⟨S,_,h2,h3⟩:=ZoZ hc c.1.length 0 (by omega) (by omega);have hS:covS S c.1=true:=Zbz.2 fun k hk=>by
  have:=Zbd (h2 (by omega)) (show 0≤k by omega);simp [this]
 exact ⟨S,hS,by rw[←Znu hc hS,h3]⟩
theorem Znz {c:Cs} (hc:CaseP c):∀k j,j<k→covS (bitS j) c.1=true→(bestSt c k).2≤costOf c (planS (bitS j) c.1)
 | k+1,j,hj,hcov=>by
  simp only[bestSt];by_cases e:j=k
  ·subst e
   by_cases h:(covS (bitS j) c.1 && tk (bestSt c j).2 (costOf c (planS (bitS j) c.1)) (befB (pns (bitS j) c.1.length) (bestSt c j).1))=true
   ·rw[if_pos h];exact Int.le_refl _
   ·rw[if_neg h]
    simp only[hcov,Bool.true_and,tk,Bool.or_eq_true,Xi,Xh,not_or] at h;omega
  ·have ih:=Znz hc k j (by omega) hcov
   split
   ·rename_i h
    simp only[Xh,tk,Bool.or_eq_true,Xi] at h;rcases h.2 with h1 | h1 | h1
    ·rcases ZgW c k with ⟨_,g2⟩ | ⟨q,_,g2,g3⟩
     ·rw[g2 j (by omega)] at hcov;cases hcov
     ·have:=Zny hc g2
      rw[g3] at h1;simp only at h1;omega
    ·omega
    ·omega
   ·exact ih
theorem Zo0 {c:Cs} (hc:CaseP c) {S:Nat→Bool} (hS:covS S c.1=true):leastOf c≤costOf c (planS S c.1):=by
 obtain ⟨k,h1,h2⟩:=ZkI S c.1.length;have e1:planS (bitS k) c.1=planS S c.1:=Znx h2;have e2:covS (bitS k) c.1=covS S c.1:=ZoX h2;have:=Znz hc (2 ^ c.1.length) k h1 (by rw[e2];exact hS)
 rw[e1] at this;exact this
theorem Zo1 {c:Cs} (hc:CaseP c):leastOf c=bw c 0:=by
 obtain ⟨S,s1,s2⟩:=ZiM hc;obtain ⟨j,_,h2,h3⟩:=ZdG c;have h4:=Zo0 hc s1;have h5:=Zmq hc h2;have h6:leastOf c=costOf c (planS (bitS j) c.1):=by simp only[leastOf,h3]
 omega
theorem Zpv {S:Nat→Bool} {n j:Nat} (hj:j<(pns S n).length):0≤gd (pns S n) j 0∧gd (pns S n) j 0<n:=by
 obtain ⟨a,a1,a2,a3,a4⟩:=Zeb hj;rw[a4];omega
theorem ZnA {c:Cs} {plan:List Int} (h:PlanP c plan): -480000≤costOf c plan∧costOf c plan≤480000:=by
 have h1:=ZgR h plan.length (Xl _);have h2:=ZeI h plan.length (Xl _);have h3:=ZeJ h plan.length (Xl _);have h8:=h.cs.n;have hn:=h.n;simp only[costOf];omega
theorem Zly {c:Cs} (hc:CaseP c):0≤leastOf c∧leastOf c≤480000:=by
 obtain ⟨j,_,h2,h3⟩:=ZdG c;have h6:leastOf c=costOf c (planS (bitS j) c.1):=by simp only[leastOf,h3]
 have h4:=Zny hc h2;have h5:=ZnA (Zec hc (bitS j));omega
def fmin (c:Cs) (f:List Int) (j:Nat):Nat→Int
 | 0=>gd f 0 0+spanOf c 0 j
 | k+1=>imin (fmin c f j k) (gd f (k+1) 0+spanOf c (k+1) j)
def argm (c:Cs) (f:List Int) (j:Nat):Nat→Nat
 | 0=>0
 | k+1=>if gd f (k+1) 0+spanOf c (k+1) j≤gd f (argm c f j k) 0+spanOf c (argm c f j k) j then k+1 else argm c f j k
def fwL (c:Cs):Nat→List Int
 | 0=>[0]
 | j+1=>fwL c j++[fmin c (fwL c j) (j+1) j]
theorem Zcl (c:Cs):∀j,(fwL c j).length=j+1
 | 0=>rfl
 | j+1=>by simp only[fwL,Xm,Zcl c j];rfl
def fw (c:Cs) (j:Nat):Int:=gd (fwL c j) j 0
theorem Zb0 (c:Cs) {i:Nat}:∀j,i≤j→gd (fwL c j) i 0=fw c i
 | 0, h => by obtain rfl : i = 0 := by omega
              rfl
 | j+1,h=>by
  by_cases e:i=j+1
  ·subst e;rfl
  ·rw[←Zb0 c j (by omega)]
   simp only[fwL];exact Zam (by rw[Zcl];omega)
theorem ZkJ (c:Cs):fw c 0=0:=rfl
theorem fw_succ (c:Cs) (j:Nat):fw c (j+1)=fmin c (fwL c j) (j+1) j:=by
 have h:=Zcl c j;simp only[fw,fwL];have:=Za0 (xs:=fwL c j) (y:=fmin c (fwL c j) (j+1) j) (d:=0)
 rwa [h] at this
theorem ZiN (c:Cs) (f:List Int) (j:Nat):∀k,argm c f j k≤k
 | 0=>Xl _
 | k + 1 => by simp only [argm]; split
               ·exact Xl _
               ·have:=ZiN c f j k;omega
theorem ZkK (c:Cs) (f:List Int) (j:Nat):∀k,fmin c f j k=gd f (argm c f j k) 0+spanOf c (argm c f j k) j∧(∀i,i≤k→fmin c f j k≤gd f i 0+spanOf c i j)∧(∀i,argm c f j k<i→i≤k→fmin c f j k<gd f i 0+spanOf c i j)
 | 0 => ⟨rfl, fun i hi => by obtain rfl : i = 0 := by omega
                             exact Int.le_refl _,fun i h1 h2=>by simp only[argm] at h1;omega⟩
 | k+1=>by
  obtain ⟨h1,h2,h3⟩:=ZkK c f j k;have hm:=Zcj (x:=fmin c f j k) (y:=gd f (k+1) 0+spanOf c (k+1) j);simp only[argm,fmin];by_cases h:gd f (k+1) 0+spanOf c (k+1) j≤gd f (argm c f j k) 0+spanOf c (argm c f j k) j
  ·simp only[if_pos h]
   refine ⟨by omega,fun i hi=> ?_,fun i h4 h5=>by omega⟩;by_cases e:i=k+1
   ·subst e;omega
   ·have:=h2 i (by omega);omega
  ·simp only[if_neg h]
   refine ⟨by omega,fun i hi=> ?_,fun i h4 h5=> ?_⟩
   ·by_cases e:i=k+1
    ·subst e;omega
    ·have:=h2 i (by omega);omega
   ·by_cases e:i=k+1
    ·subst e;omega
    ·have:=h3 i h4 (by omega);omega
def lst (c:Cs) (j:Nat):Nat:=argm c (fwL c (j - 1)) j (j - 1)
theorem ZnB (c:Cs) {j:Nat} (hj:0<j):lst c j<j∧fw c j=fw c (lst c j)+spanOf c (lst c j) j∧(∀i,i<j→fw c j≤fw c i+spanOf c i j)∧(∀i,lst c j<i→i<j→fw c j<fw c i+spanOf c i j):=by
 obtain ⟨k,rfl⟩:∃k,j=k+1:=⟨j - 1,by omega⟩
 have hl:=ZiN c (fwL c k) (k+1) k;obtain ⟨h1,h2,h3⟩:=ZkK c (fwL c k) (k+1) k;simp only[lst,Nat.add_sub_cancel];rw[fw_succ];refine ⟨by omega, ?_,fun i hi=> ?_,fun i h4 h5=> ?_⟩
 ·rw[h1,Zb0 c k hl]
 ·rw[←Zb0 c k (show i≤k by omega)];exact h2 i (by omega)
 ·rw[←Zb0 c k (show i≤k by omega)];exact h3 i h4 (by omega)
theorem ZiO {c:Cs} (hc:CaseP c):∀d j,j≤d→j≤c.1.length→0≤fw c j∧fw c j≤13059:=by
 intro d
 induction d with
 | zero => intro j h1 h2; obtain rfl : j = 0 := by omega
           rw[ZkJ];omega
 | succ d ih=>
  intro j h1 h2;by_cases e:j=0
  ·subst e;rw[ZkJ];omega
  ·obtain ⟨g1,g2,g3,_⟩:=ZnB c (show 0<j by omega)
   have h3:=ih (lst c j) (by omega) (by omega);have h4:=Z5 hc (i:=lst c j) (j:=j) (by omega) (by omega) h2;have h5:=g3 0 (by omega);have h6:=Z5 hc (i:=0) (j:=j) (by omega) (by omega) h2;rw[ZkJ] at h5;omega
theorem ZqK {c:Cs} (hc:CaseP c) {i:Nat} (hi:i≤c.1.length):0≤bw c i∧bw c i≤13059:=Zgh hc c.1.length (Xl _) i (by rw[Zaw];omega)
theorem ZaJ {N:Nat} {c:Cs} (hc:CaseP c) (hN:4194304≤N):Q15 N c=some (fwL c c.1.length,()):=by
 have h8:=hc.n;by_cases hn:c.1.length=0
 ·obtain ⟨m,rfl⟩:∃q,N=q+1:=⟨N - 1,by omega⟩
  simp only[Q15];rw[Q15_L2_succ];simp only[Q15_B2,Q15_K2,ile_eq,len_eq,hn,fwL];rfl
 refine Q15_L2_run N (fun j=>((j+1:Nat):Int)) (fun _=>c) (fwL c) c.1.length (fun j hj kx=> ?_) (fun kx=> ?_) N (by omega)
 ·have hl:=Zcl c j
  have hs0:=Z5 hc (i:=0) (j:=j+1) (by omega) (by omega) (by omega);have hf0:=ZiO hc 0 0 (by omega) (by omega);have e0:iadd .i64 (gd (fwL c j) 0 0) (spanOf c 0 (j+1))=fmin c (fwL c j) (j+1) 0:=by
   rw[Zb0 c j (by omega),Zh (by omega) (by omega)];simp only[fmin,Zb0 c j (show 0≤j by omega)]
  have es:Q22 N c 0 ((j+1:Nat):Int)=some (spanOf c 0 (j+1),()):=Z0 hc (i:=0) (j:=j+1) (by omega) (by omega) (by omega) hN;simp only[Q15_B2,ile_eq,len_eq,show ((j+1:Nat):Int)≤(c.1.length:Int) by omega,Xf,Xd,Zf (ZaL (i:=0) (n:=(fwL c j).length) (by omega) (by omega)),es,Xa,e0];refine Q15_L1_run N kx (fun _=>((j+1:Nat):Int)) (fun k=>fmin c (fwL c j) (j+1) k) (fun k=>((1+k:Nat):Int)) (fun _=>c) (fun _=>fwL c j) j (fun k hk kx1=> ?_) (fun kx1=> ?_) N (by omega)
  ·have hs:=Z5 hc (i:=k+1) (j:=j+1) (by omega) (by omega) (by omega)
   have hf:=ZiO hc (k+1) (k+1) (by omega) (by omega);simp only[Nat.add_comm 1 k];rw[show 1+(k+1)=k+1+1 by omega];simp only[Q15_B1,ilt_eq,Xk,show k+1<j+1 by omega,Xf,Xd,Zf (Zb (show k+1<(fwL c j).length by omega)),Z0 hc (show k+1<c.1.length by omega) (show k+1≤j+1 by omega) (show j+1≤c.1.length by omega) hN,Xa,Xj,Zc (show k+1<4611686018427387904 by omega),fmin,Zb0 c j (show k+1≤j by omega)];rw[Zh (by omega) (by omega)]
  ·simp only[Q15_B1,Q15_K1,ilt_eq,Xk,show ¬1+j<j+1 by omega,Xg,Xe,hl,Zf (Zn (n:=j+1+1) (b:=8) (by omega) (by omega)),Zc (show j+1<4611686018427387904 by omega),fwL]
 ·simp only[Q15_B2,Q15_K2,ile_eq,len_eq,show ¬((c.1.length+1:Nat):Int)≤(c.1.length:Int) by omega,Xg,Xe]
def lstL (c:Cs) (n:Nat):List Int:=(List.range n).map fun q=>((lst c (q+1):Nat):Int)
theorem Zgj (c:Cs) (n:Nat):(lstL c n).length=n:=by simp [lstL]
theorem lstL_succ (c:Cs) (n:Nat):lstL c (n+1)=lstL c n++[((lst c (n+1):Nat):Int)]:=map_range_succ _ _
theorem ZnC (c:Cs) {n q:Nat} (h:q<n):gd (lstL c n) q 0=((lst c (q+1):Nat):Int):=Zbq _ _ h
theorem Zbe {N:Nat} {c:Cs} (hc:CaseP c) (hN:4194304≤N):Q163 N c=some ((fwL c c.1.length,lstL c c.1.length),()):=by
 have h8:=hc.n;refine Q163_L2_run N (fun j=>((j+1:Nat):Int)) (fun _=>c) (fwL c) (lstL c) c.1.length (fun j hj kx=> ?_) (fun kx=> ?_) N (by omega)
 ·have hl:=Zcl c j
  have hll:=Zgj c j;simp only[Q163_B2,ile_eq,len_eq,show ((j+1:Nat):Int)≤(c.1.length:Int) by omega,Xf,Xd];refine Q163_L1_run N kx (fun _=>((j+1:Nat):Int)) (fun k=>((argm c (fwL c j) (j+1) k:Nat):Int)) (fun k=>((1+k:Nat):Int)) (fun _=>c) (fun _=>fwL c j) (fun _=>lstL c j) j (fun k hk kx1=> ?_) (fun kx1=> ?_) N (by omega)
  ·have ha:=ZiN c (fwL c j) (j+1) k
   have hs:=Z5 hc (i:=k+1) (j:=j+1) (by omega) (by omega) (by omega);have hf:=ZiO hc (k+1) (k+1) (by omega) (by omega);have hs2:=Z5 hc (i:=argm c (fwL c j) (j+1) k) (j:=j+1) (by omega) (by omega) (by omega);have hf2:=ZiO hc (argm c (fwL c j) (j+1) k) (argm c (fwL c j) (j+1) k) (by omega) (by omega);have g1:=Zb0 c j (show k+1≤j by omega);have g2:=Zb0 c j (show argm c (fwL c j) (j+1) k≤j by omega)
   simp only[Nat.add_comm 1 k];rw[show 1+(k+1)=k+1+1 by omega];simp only[Q163_B1,ilt_eq,ile_eq,Xk,show k+1<j+1 by omega,Xf,Xd,Zf (Zb (show k+1<(fwL c j).length by omega)),Zf (Zb (show argm c (fwL c j) (j+1) k<(fwL c j).length by omega)),Zan hc (show k+1<c.1.length by omega) (show k+1≤j+1 by omega) (show j+1≤c.1.length by omega) hN,Zan hc (show argm c (fwL c j) (j+1) k<c.1.length by omega) (show argm c (fwL c j) (j+1) k≤j+1 by omega) (show j+1≤c.1.length by omega) hN,Xa,Xj,Zc (show k+1<4611686018427387904 by omega),argm,g1,g2,Zh (a:=fw c (k+1)) (b:=spanOf c (k+1) (j+1)) (by omega) (by omega),Zh (a:=fw c (argm c (fwL c j) (j+1) k)) (b:=spanOf c (argm c (fwL c j) (j+1) k) (j+1)) (by omega) (by omega)];by_cases h:fw c (k+1)+spanOf c (k+1) (j+1)≤fw c (argm c (fwL c j) (j+1) k)+spanOf c (argm c (fwL c j) (j+1) k) (j+1)
   ·simp only[h,Xf,Xd,if_true]
   ·simp only[h,Xg,Xe,if_false]
  ·have ha:=ZiN c (fwL c j) (j+1) j
   have hs2:=Z5 hc (i:=argm c (fwL c j) (j+1) j) (j:=j+1) (by omega) (by omega) (by omega);have hf2:=ZiO hc (argm c (fwL c j) (j+1) j) (argm c (fwL c j) (j+1) j) (by omega) (by omega);have g2:=Zb0 c j ha;have hv:iadd .i64 (fw c (argm c (fwL c j) (j+1) j)) (spanOf c (argm c (fwL c j) (j+1) j) (j+1))=fmin c (fwL c j) (j+1) j:=by
    rw[Zh (by omega) (by omega),(ZkK c (fwL c j) (j+1) j).1,g2]
   simp only[Q163_B1,Q163_K1,ilt_eq,Xk,show ¬1+j<j+1 by omega,Xg,Xe,hl,hll,Zf (Zb (show argm c (fwL c j) (j+1) j<j+1 by omega)),Zan hc (show argm c (fwL c j) (j+1) j<c.1.length by omega) (show argm c (fwL c j) (j+1) j≤j+1 by omega) (show j+1≤c.1.length by omega) hN,Xa,Xj,g2,hv,Zf (Zn (n:=j+1+1) (b:=8) (by omega) (by omega)),Zf (Zn (n:=j+1) (b:=8) (by omega) (by omega)),Zc (show j+1<4611686018427387904 by omega),fwL,lstL_succ,lst,Nat.add_sub_cancel]
 ·simp only[Q163_B2,Q163_K2,ile_eq,len_eq,show ¬((c.1.length+1:Nat):Int)≤(c.1.length:Int) by omega,Xg,Xe]
theorem ZcS {N:Nat} {c:Cs} (hc:CaseP c) (hN:4194304≤N):Q18 N c=some (lstL c c.1.length,()):=by
 have h8:=hc.n;have hl:=Zcl c c.1.length;simp only[Q18,ZaJ hc hN,Xa];refine Q18_L2_run N (fun j=>((j+1:Nat):Int)) (fun _=>c) (lstL c) (fun _=>fwL c c.1.length) c.1.length (fun j hj kx=> ?_) (fun kx=> ?_) N (by omega)
 ·have hll:=Zgj c j
  obtain ⟨g1,g2,g3,g4⟩:=ZnB c (show 0<j+1 by omega);have e1:isub .i64 ((j+1:Nat):Int) 1=((j - 0:Nat):Int):=by rw[Zv (by omega) (by omega)];omega
  have step:∀k,k≤j→∀kx1,Q18_B1 N kx kx1 ((j+1:Nat):Int) ((j - k:Nat):Int) c (lstL c j) (fwL c c.1.length)=bif !decide (fw c (j - k)+spanOf c (j - k) (j+1)=fw c (j+1)) then kx1 ((j+1:Nat):Int) (isub .i64 ((j - k:Nat):Int) 1) c (lstL c j) (fwL c c.1.length) else kx ((j+1+1:Nat):Int) c (lstL c j++[((j - k:Nat):Int)]) (fwL c c.1.length):=fun k hk kx1=>by
   have hs:=Z5 hc (i:=j - k) (j:=j+1) (by omega) (by omega) (by omega);have hf:=ZiO hc (j - k) (j - k) (by omega) (by omega);simp only[Q18_B1,Q18_K1,Zf (Zb (show j - k<(fwL c c.1.length).length by omega)),Zf (Zb (show j+1<(fwL c c.1.length).length by omega)),Z0 hc (show j - k<c.1.length by omega) (show j - k≤j+1 by omega) (show j+1≤c.1.length by omega) hN,Xa,Xj,Zb0 c c.1.length (show j - k≤c.1.length by omega),Zb0 c c.1.length (show j+1≤c.1.length by omega),ine_eq,hll,Zf (Zn (n:=j+1) (b:=8) (by omega) (by omega)),Zc (show j+1<4611686018427387904 by omega),Zh (a:=fw c (j - k)) (b:=spanOf c (j - k) (j+1)) (by omega) (by omega)]
  simp only[Q18_B2,ilt_eq,len_eq,hl,Xk,show j+1<c.1.length+1 by omega,Xf,Xd,e1];refine Q18_L1_run N kx (fun _=>((j+1:Nat):Int)) (fun k=>((j - k:Nat):Int)) (fun _=>c) (fun _=>lstL c j) (fun _=>fwL c c.1.length) (j - lst c (j+1)) (fun k hk kx1=> ?_) (fun kx1=> ?_) N (by omega)
  ·have h4:=g4 (j - k) (by omega) (by omega)
   have e2:isub .i64 ((j - k:Nat):Int) 1=((j - (k+1):Nat):Int):=by rw[Zv (by omega) (by omega)];omega
   rw[step k (by omega),Xb (by omega),e2];rfl
  ·rw[step (j - lst c (j+1)) (by omega)]
   rw[show j - (j - lst c (j+1))=lst c (j+1) by omega,Xc g2.symm,lstL_succ];rfl
 ·simp only[Q18_B2,Q18_K2,ilt_eq,len_eq,hl,Xn,Xg,Xe]
def cutC (c:Cs) (a b:Nat):Cs:=(cut c.1 a b,(cut c.2.1 a b,(cut c.2.2.1 a b,cut c.2.2.2 a b)))
theorem Zlz {c:Cs} {a b:Nat} (hb:b≤c.1.length):(cutC c a b).1.length=b - a:=Zal _ hb
theorem ZqL {c:Cs} (hc:CaseP c) {a b:Nat} (hb:b≤c.1.length):CaseP (cutC c a b):=by
 have l1:=hc.l1;have l2:=hc.l2;have l3:=hc.l3;have h8:=hc.n;refine ⟨by rw[Zlz hb];omega, ?_, ?_, ?_,Zdl hc.b0 hb,Zdl hc.b1 (by omega),Zdl hc.b2 (by omega),Zdl hc.b3 (by omega)⟩
 ·show (cut c.2.1 a b).length=(cut c.1 a b).length
  rw[Zal _ (show b≤c.2.1.length by omega),Zal _ hb]
 ·show (cut c.2.2.1 a b).length=(cut c.1 a b).length
  rw[Zal _ (show b≤c.2.2.1.length by omega),Zal _ hb]
 ·show (cut c.2.2.2 a b).length=(cut c.1 a b).length
  rw[Zal _ (show b≤c.2.2.2.length by omega),Zal _ hb]
theorem ZfV {N:Nat} {c:Cs} (hc:CaseP c) {a b:Nat} (hab:a≤b) (hb:b≤c.1.length):Q14 N c a b=some (cutC c a b,()):=by
 have l1:=hc.l1;have l2:=hc.l2;have l3:=hc.l3;have h8:=hc.n;simp only[Q14,Zf (ZA (l:=(a:Int)) (h:=(b:Int)) (n:=c.1.length) (by omega) (by omega) (by omega)),Zf (ZA (l:=(a:Int)) (h:=(b:Int)) (n:=c.2.1.length) (by omega) (by omega) (by omega)),Zf (ZA (l:=(a:Int)) (h:=(b:Int)) (n:=c.2.2.1.length) (by omega) (by omega) (by omega)),Zf (ZA (l:=(a:Int)) (h:=(b:Int)) (n:=c.2.2.2.length) (by omega) (by omega) (by omega)),Z1 (xs:=cut c.1 a b) (by rw[Zal _ hb];omega),Z1 (xs:=cut c.2.1 a b) (by rw[Zal _ (show b≤c.2.1.length by omega)];omega),Z1 (xs:=cut c.2.2.1 a b) (by rw[Zal _ (show b≤c.2.2.1.length by omega)];omega),Z1 (xs:=cut c.2.2.2 a b) (by rw[Zal _ (show b≤c.2.2.2.length by omega)];omega),Xa,cutC]
def turnS (c:Cs) (i:Nat):Bool:=decide (fw c i+bw c i=bw c 0)
def turnP (c:Cs):List Int×Bool:=bif caseB c then (pns (turnS c) (c.1.length+1),true) else ([],false)
theorem ZnD (c:Cs):(bwL c).length=c.1.length+1:=Zaw c _
theorem Zc3 {N:Nat} {c:Cs} (hs:SmC c) (hN:4194304≤N):Q51 N c=some (turnP c,()):=by
 simp only[Q51,ZK hs hN,Xa,Zt,turnP];cases hb:caseB c with
 | false=>rfl
 | true=>
  have hc:=ZB.1 hb;have h8:=hc.n;have hl:=Zcl c c.1.length;have hl2:=ZnD c;simp only[Xd,ZaJ hc hN,Zbr hc hN,Xa,len_eq,hl];refine Q51_L1_run N (fun _=>((c.1.length+1:Nat):Int)) (fun i=>(i:Int)) (fun i=>pns (turnS c) i) (fun _=>bwL c) (fun _=>fwL c c.1.length) (c.1.length+1) (fun i hi kx=> ?_) (fun kx=> ?_) N (by omega)
  ·have hcl:(pns (turnS c) i).length≤i:=Za7 _ _
   have f1:=ZiO hc i i (Xl _) (by omega);have f2:=ZqK hc (i:=i) (by omega);have e1:iadd .i64 (gd (fwL c c.1.length) i 0) (gd (bwL c) i 0)=fw c i+bw c i:=by
    rw[Zb0 c c.1.length (by omega),show gd (bwL c) i 0=bw c i from rfl,Zh (by omega) (by omega)]
   simp only[Q51_B1,ilt_eq,Xk,hi,Xf,Xd,hl,hl2,Zb hi,Zf (ZaL (i:=0) (n:=c.1.length+1) (by omega) (by omega)),chk_true',Xj,e1,ieq_eq,Zf (Zn (n:=(pns (turnS c) i).length+1) (b:=8) (by omega) (by omega)),Zc (show i<4611686018427387904 by omega),pns_succ,show gd (bwL c) 0 0=bw c 0 from rfl];by_cases e:fw c i+bw c i=bw c 0
   ·simp [e,turnS]
   ·simp [e,turnS]
  ·simp only[Q51_B1,Q51_K1,ilt_eq,Xn,Xg,Xe]
theorem Zc4 {N:Nat} {c:Cs} (hs:SmC c) (hN:4194304≤N):Q108 N c=some (turnP c,()):=by
 simp only[Q108,ZL hs hN,Xa,Zt,turnP];cases hb:caseB c with
 | false=>rfl
 | true=>
  have hc:=ZB.1 hb;have h8:=hc.n;have hl:=Zcl c c.1.length;have hl2:=ZnD c;simp only[Xd,Zbe hc hN,Zca hc hN,Xa];refine Q108_L1_run N (fun i=>(i:Int)) (fun i=>pns (turnS c) i) (fun _=>(fwL c c.1.length,lstL c c.1.length)) (fun _=>bwL c) (c.1.length+1) (fun i hi kx=> ?_) (fun kx=> ?_) N (by omega)
  ·have hcl:(pns (turnS c) i).length≤i:=Za7 _ _
   have f1:=ZiO hc i i (Xl _) (by omega);have f2:=ZqK hc (i:=i) (by omega);have e1:iadd .i64 (gd (fwL c c.1.length) i 0) (gd (bwL c) i 0)=fw c i+bw c i:=by
    rw[Zb0 c c.1.length (by omega),show gd (bwL c) i 0=bw c i from rfl,Zh (by omega) (by omega)]
   simp only[Q108_B1,ilt_eq,len_eq,Xk,hi,Xf,Xd,hl,hl2,Zb hi,Zf (ZaL (i:=0) (n:=c.1.length+1) (by omega) (by omega)),chk_true',Xj,e1,ieq_eq,Zf (Zn (n:=(pns (turnS c) i).length+1) (b:=8) (by omega) (by omega)),Zc (show i<4611686018427387904 by omega),pns_succ,show gd (bwL c) 0 0=bw c 0 from rfl];by_cases e:fw c i+bw c i=bw c 0
   ·simp [e,turnS]
   ·simp [e,turnS]
  ·simp only[Q108_B1,Q108_K1,ilt_eq,len_eq,hl,Xn,Xg,Xe]
def fwP (c:Cs):List Int×Bool:=bif caseB c then (fwL c c.1.length,true) else ([],false)
theorem ZdL {N:Nat} {c:Cs} (hs:SmC c) (hN:4194304≤N):Q29 N c=some (fwP c,()):=by
 simp only[Q29,ZK hs hN,Xa,Zt,fwP];cases hb:caseB c with
 | false=>rfl
 | true=>simp only[Xd,ZaJ (ZB.1 hb) hN,Xa]
theorem ZdM {N:Nat} {c:Cs} (hs:SmC c) (hN:4194304≤N):Q100 N c=some (fwP c,()):=by
 simp only[Q100,ZL hs hN,Xa,Zt,fwP];cases hb:caseB c with
 | false=>rfl
 | true=>simp only[Xd,Zbe (ZB.1 hb) hN,Xa]
def horS (c:Cs):Nat→Bool
 | 0=>false
 | i+1=>decide (lst c (i+1)=i) && decide (0<gd c.1 i 0)
def horP (c:Cs):List Int×Bool:=bif caseB c then (pns (horS c) (c.1.length+1),true) else ([],false)
theorem ZnE (a b:Nat):decide (((a:Nat):Int)=(b:Int))=decide (a=b):=by rw[decide_eq_decide];omega
theorem ZeP {N:Nat} {c:Cs} (hs:SmC c) (hN:4194304≤N):Q30 N c=some (horP c,()):=by
 simp only[Q30,ZK hs hN,Xa,Zt,horP];cases hb:caseB c with
 | false=>rfl
 | true=>
  have hc:=ZB.1 hb;have h8:=hc.n;have hll:=Zgj c c.1.length;simp only[Xd,ZcS hc hN,Xa,len_eq,hll];refine Q30_L1_run N (fun _=>(c.1.length:Int)) (fun i=>(i:Int)) (fun _=>c) (fun i=>pns (horS c) (i+1)) (fun _=>lstL c c.1.length) c.1.length (fun i hi kx=> ?_) (fun kx=> ?_) N (by omega)
  ·have hcl:(pns (horS c) (i+1)).length≤i+1:=Za7 _ _
   simp only[Q30_B1,ilt_eq,Xk,hi,Xf,Xd,hll,Zb hi,chk_true',Xj,ZnC c hi,ieq_eq,ZnE,Zf (Zn (n:=(pns (horS c) (i+1)).length+1) (b:=8) (by omega) (by omega)),Zc (show i<4611686018427387904 by omega),pns_succ (horS c) (i+1)];by_cases q1:lst c (i+1)=i
   ·by_cases q2:0<gd c.1 i 0
    ·simp [q1,q2,horS]
    ·simp [q1,q2,horS]
   ·simp [q1,horS]
  ·simp only[Q30_B1,Q30_K1,ilt_eq,Xn,Xg,Xe]
theorem ZeQ {N:Nat} {c:Cs} (hs:SmC c) (hN:4194304≤N):Q101 N c=some (horP c,()):=by
 simp only[Q101,ZL hs hN,Xa,Zt,horP];cases hb:caseB c with
 | false=>rfl
 | true=>
  have hc:=ZB.1 hb;have h8:=hc.n;have hll:=Zgj c c.1.length;simp only[Xd,Zbe hc hN,Xa];refine Q101_L1_run N (fun i=>((i+1:Nat):Int)) (fun _=>c) (fun i=>pns (horS c) (i+1)) (fun _=>(fwL c c.1.length,lstL c c.1.length)) c.1.length (fun i hi kx=> ?_) (fun kx=> ?_) N (by omega)
  ·have hcl:(pns (horS c) (i+1)).length≤i+1:=Za7 _ _
   have e1:isub .i64 ((i+1:Nat):Int) 1=(i:Int):=by rw[Zv (by omega) (by omega)];omega
   simp only[Q101_B1,ile_eq,ilt_eq,len_eq,hll,show ((i+1:Nat):Int)≤(c.1.length:Int) by omega,Xf,Xd,e1,Zb hi,chk_true',Xj,ZnC c hi,ieq_eq,ZnE,Zf (Zn (n:=(pns (horS c) (i+1)).length+1) (b:=8) (by omega) (by omega)),Zc (show i+1<4611686018427387904 by omega),pns_succ (horS c) (i+1)];by_cases q1:lst c (i+1)=i
   ·by_cases q2:0<gd c.1 i 0
    ·simp [q1,q2,horS]
    ·simp [q1,q2,horS]
   ·simp [q1,horS]
  ·simp only[Q101_B1,Q101_K1,ile_eq,len_eq,hll,show ¬((c.1.length+1:Nat):Int)≤(c.1.length:Int) by omega,Xg,Xe]
theorem ZnF {f g:Nat→Int}:∀ {n:Nat},(∀i,i<n→f i≤g i)→rsum f n≤rsum g n
 | 0,_=>Int.le_refl _
 | n+1,h=>by simp only[rsum];have:=ZnF (n:=n) (fun i hi=>h i (by omega));have:=h n (by omega);omega
theorem Zpw (z:Int):z≤mx0 z∧0≤mx0 z:=by unfold mx0;split<;>omega
def prVal (c:Cs) (out:List Int) (t i:Nat):Int:=gd c.1 t 0*rateOf c i t+gd c.2.1 i 0 - claimOf c out i
def prMin (c:Cs) (out:List Int) (t:Nat):Nat→Int
 | 0=>prVal c out t 0
 | k+1=>if prVal c out t (k+1)<prMin c out t k then prVal c out t (k+1) else prMin c out t k
theorem ZiP (c:Cs) (out:List Int) (t:Nat):∀k,(∀i,i≤k→prMin c out t k≤prVal c out t i)∧∃i,i≤k∧prMin c out t k=prVal c out t i
 | 0 => ⟨fun i hi => by obtain rfl : i = 0 := by omega
                        exact Int.le_refl _,0,Xl _,rfl⟩
 | k+1=>by
  obtain ⟨h1,i,h2,h3⟩:=ZiP c out t k;simp only[prMin];by_cases h:prVal c out t (k+1)<prMin c out t k
  ·rw[if_pos h]
   refine ⟨fun q hq=> ?_,k+1,Xl _,rfl⟩;by_cases e:q=k+1
   ·subst e;exact Int.le_refl _
   ·have:=h1 q (by omega);omega
  ·rw[if_neg h]
   refine ⟨fun q hq=> ?_,i,by omega,h3⟩;by_cases e:q=k+1
   ·subst e;omega
   ·exact h1 q (by omega)
def prL (c:Cs):Nat→List Int
 | 0=>[]
 | t+1=>prL c t++[if 0<gd c.1 t 0 then prMin c (prL c t) t t else 0]
theorem Zcm (c:Cs):∀t,(prL c t).length=t
 | 0=>rfl
 | t+1=>by simp only[prL,Xm,Zcm c t];rfl
def prA (c:Cs) (q:Nat):Int:=if 0<gd c.1 q 0 then prMin c (prL c q) q q else 0
theorem ZlA (c:Cs) {q:Nat}:∀t,q<t→gd (prL c t) q 0=prA c q
 | t+1,h=>by
  simp only[prL];by_cases e:q=t
  ·have hl:=Zcm c t
   have:=Za0 (xs:=prL c t) (y:=if 0<gd c.1 t 0 then prMin c (prL c t) t t else 0) (d:=0)
   rw[hl] at this;rw[e,this];rfl
  ·rw[Zam (by rw[Zcm];omega)]
   exact ZlA c t (by omega)
def clm (c:Cs) (i t:Nat):Int:=rsum (fun k=>mx0 (prA c (i+k) - gd c.1 (i+k) 0*rateOf c i (i+k))) (t - i)
theorem ZlB (c:Cs) {i t:Nat}:claimOf c (prL c t) i=clm c i t:=by
 simp only[claimOf,clm,Zcm];exact Zaa fun k hk=>by simp only[claimT,ZlA c t (show i+k<t by omega)]
theorem clm_succ (c:Cs) {i t:Nat} (hit:i≤t):clm c i (t+1)=clm c i t+mx0 (prA c t - gd c.1 t 0*rateOf c i t):=by
 simp only[clm];rw[show t+1 - i=(t - i)+1 by omega];simp only[rsum];rw[show i+(t - i)=t by omega]
theorem ZlC (c:Cs) (i:Nat):clm c i i=0:=by simp [clm,rsum]
theorem ZnG {c:Cs} (hc:CaseP c):∀t i,i≤t→i<c.1.length→t≤c.1.length→clm c i t≤gd c.2.1 i 0
 | 0,i,h,hi,_=>by
  obtain rfl:i=0:=by omega
  rw[ZlC];exact (hc.b1 0 (by have:=hc.l1;omega)).1
 | t+1,i,h,hi,ht=>by
  by_cases e:i=t+1
  ·subst e;rw[ZlC];exact (hc.b1 _ (by have:=hc.l1;omega)).1
  ·have ih:=ZnG hc t i (by omega) hi (by omega)
   rw[clm_succ c (by omega)];have hr:=Zci hc (i:=i) (t:=t) hi (by omega) (by omega);have hb:=hc.b0 t (by omega);have hm:=Int.mul_nonneg hb.1 hr.1;have hp:prA c t≤gd c.1 t 0*rateOf c i t+gd c.2.1 i 0 - clm c i t:=by
    simp only[prA];split
    ·have:=(ZiP c (prL c t) t t).1 i (by omega)
     simp only[prVal,ZlB] at this;exact this
    ·omega
   unfold mx0;split<;>omega
theorem Zq8 {c:Cs} (hc:CaseP c) {t:Nat} (ht:t<c.1.length) (hp:0<gd c.1 t 0):∃i,i≤t∧prA c t=gd c.1 t 0*rateOf c i t+gd c.2.1 i 0 - clm c i t∧gd c.1 t 0*rateOf c i t≤prA c t∧clm c i (t+1)=gd c.2.1 i 0:=by
 obtain ⟨_,i,h1,h2⟩:=ZiP c (prL c t) t t;have e:prA c t=gd c.1 t 0*rateOf c i t+gd c.2.1 i 0 - clm c i t:=by
  simp only[prA,if_pos hp,h2,prVal,ZlB]
 have h3:=ZnG hc t i h1 (by omega) (by omega);refine ⟨i,h1,e,by omega, ?_⟩;rw[clm_succ c h1];unfold mx0;split<;>omega
theorem Zpx {c:Cs} (hc:CaseP c) {t:Nat} (ht:t<c.1.length):0≤prA c t∧prA c t≤1719:=by
 by_cases hp:0<gd c.1 t 0
 ·obtain ⟨i,i1,i2,i3,i4⟩:=Zq8 hc ht hp
  have hr:=Zci hc (i:=i) (t:=t) (by omega) i1 (by omega);have hb:=hc.b0 t ht;have hm:=Int.mul_nonneg hb.1 hr.1;have hm2:=Zb8 (B:=81) hb (show -81≤rateOf c i t∧rateOf c i t≤81 by omega);have hs:=hc.b1 i (by have:=hc.l1;omega)
  have hc0:0≤clm c i t:=Zg5 fun _ _=>(Zpw _).2
  omega
 ·simp only[prA,if_neg hp];omega
theorem ZqM {c:Cs} (hc:CaseP c) {t:Nat} (ht:t≤c.1.length):PrP c (prL c t):=by
 refine ⟨hc,by rw[Zcm];exact ht,fun i hi=> ?_⟩
 rw[Zcm] at hi;rw[ZlA c t hi];have:=Zpx hc (show i<c.1.length by omega);omega
theorem ZlD {c:Cs} (hc:CaseP c) {t i:Nat} (ht:t<c.1.length) (hit:i≤t):isub .i64 (iadd .i64 (imul .i64 (gd c.1 t 0) (rateOf c i t)) (gd c.2.1 i 0)) (claimOf c (prL c t) i)=prVal c (prL c t) t i:=by
 have hr:=Zci hc (i:=i) (t:=t) (by omega) hit (by omega);have hb:=hc.b0 t ht;have hm:=Int.mul_nonneg hb.1 hr.1;have hm2:=Zb8 (B:=81) hb (show -81≤rateOf c i t∧rateOf c i t≤81 by omega);have hs:=hc.b1 i (by have:=hc.l1;omega)
 have h1:=ZnG hc t i hit (by omega) (by omega);have hc0:0≤clm c i t:=Zg5 fun _ _=>(Zpw _).2
 rw[ZlB] at*;simp only[prVal,ZlB];rw[ZV (by omega) (by omega),Zh (by omega) (by omega),Zv (by omega) (by omega)]
def prSt (c:Cs) (t:Nat):Nat→Int
 | 0=>0
 | k+1=>prMin c (prL c t) t k
theorem ZjY (c:Cs) (t k:Nat):prSt c t (k+1)=if k=0 then prVal c (prL c t) t k else if prVal c (prL c t) t k<prSt c t k then prVal c (prL c t) t k else prSt c t k:=by
 cases k with
 | zero=>rfl
 | succ k=>rw[if_neg (by omega)];rfl
theorem ZdN {N:Nat} {c:Cs} (hc:CaseP c) (hN:4194304≤N):Q27_L2 N N c.1 c.1.length 0 c []=some ((prL c c.1.length,true),()):=by
 have h8:=hc.n;have l1:=hc.l1;refine Q27_L2_run N (fun _=>c.1) (fun _=>(c.1.length:Int)) (fun t=>(t:Int)) (fun _=>c) (prL c) c.1.length (fun t ht kx=> ?_) (fun kx=> ?_) N (by omega)
 ·have hl:=Zcm c t
  simp only[Q27_B2,ilt_eq,Xk,ht,Xf,Xd,Zb ht,chk_true',Xj,hl,Zf (Zn (n:=t+1) (b:=8) (by omega) (by omega)),Zc (show t<4611686018427387904 by omega)];by_cases hp:0<gd c.1 t 0
  ·simp only[hp,Xf,Xd]
   refine Q27_L1_run N kx (fun _=>(t:Int)) (fun _=>gd c.1 t 0) (prSt c t) (fun _=>c.1) (fun _=>(c.1.length:Int)) (fun _=>(t:Int)) (fun _=>((t+1:Nat):Int)) (fun i=>(i:Int)) (fun _=>c) (fun _=>prL c t) (t+1) (fun i hi kx1=> ?_) (fun kx1=> ?_) N (by omega)
   ·have ez:decide ((i:Int)=0)=decide (i=0):=by rw[decide_eq_decide];omega
    simp only[Q27_B1,ilt_eq,ieq_eq,Xk,hi,Xf,Xd,ZaI hc (show i<c.1.length by omega) (show i≤t by omega) (show t≤c.1.length by omega) hN,Xa,Zb (show i<c.2.1.length by omega),chk_true',Xj,ZeL (ZqM hc (show t≤c.1.length by omega)) (show i<c.1.length by omega) hN,ZlD hc ht (show i≤t by omega),ez,Zc (show i<4611686018427387904 by omega),ZjY];by_cases q1:i=0
    ·simp [q1]
    ·by_cases q2:prVal c (prL c t) t i<prSt c t i
     ·simp [q1,q2]
     ·simp [q1,q2]
   ·simp only[Q27_B1,Q27_K1,ilt_eq,Xn,Xg,Xe,hl,Zf (Zn (n:=t+1) (b:=8) (by omega) (by omega)),Zc (show t<4611686018427387904 by omega),prL,if_pos hp,prSt]
  ·simp only[hp,Xg,Xe,prL,if_false]
 ·simp only[Q27_B2,Q27_K2,ilt_eq,Xn,Xg,Xe]
theorem Zhr {N:Nat} {c:Cs} (hc:CaseP c) (hN:4194304≤N):Q161 N c=some (prL c c.1.length,()):=by
 have h8:=hc.n;have l1:=hc.l1;refine Q161_L2_run N (fun t=>(t:Int)) (fun _=>c) (prL c) c.1.length (fun t ht kx=> ?_) (fun kx=> ?_) N (by omega)
 ·have hl:=Zcm c t
  simp only[Q161_B2,ilt_eq,len_eq,Xk,ht,Xf,Xd];by_cases hp:0<gd c.1 t 0
  ·refine Q161_L1_run N kx (fun _=>(t:Int)) (prSt c t) (fun i=>(i:Int)) (fun _=>c) (fun _=>prL c t) (t+1) (fun i hi kx1=> ?_) (fun kx1=> ?_) N (by omega)
   ·have ez:decide ((i:Int)=0)=decide (i=0):=by rw[decide_eq_decide];omega
    simp only[Q161_B1,ilt_eq,ile_eq,ieq_eq,show (i:Int)≤(t:Int) by omega,Xf,Xd,Zb ht,hp,Zbm hc (show i<c.1.length by omega) (show i≤t by omega) (show t≤c.1.length by omega) hN,Xa,Zb (show i<c.2.1.length by omega),chk_true',Xj,ZgU (ZqM hc (show t≤c.1.length by omega)) (show i<c.1.length by omega) hN,ZlD hc ht (show i≤t by omega),ez,Zc (show i<4611686018427387904 by omega),ZjY];by_cases q1:i=0
    ·simp [q1]
    ·by_cases q2:prVal c (prL c t) t i<prSt c t i
     ·simp [q1,q2]
     ·simp [q1,q2]
   ·simp only[Q161_B1,Q161_K1,ile_eq,show ¬((t+1:Nat):Int)≤(t:Int) by omega,Xg,Xe,hl,Zf (Zn (n:=t+1) (b:=8) (by omega) (by omega)),Zc (show t<4611686018427387904 by omega),prL,if_pos hp,prSt]
  ·refine Q161_L1_run N kx (fun _=>(t:Int)) (fun _=>0) (fun i=>(i:Int)) (fun _=>c) (fun _=>prL c t) 0 (fun i hi kx1=>by omega) (fun kx1=> ?_) N (by omega)
   simp only[Q161_B1,Q161_K1,ilt_eq,ile_eq,show ((0:Nat):Int)≤(t:Int) by omega,Xf,Xd,Zb ht,chk_true',Xj,hp,Xg,Xe,hl,Zf (Zn (n:=t+1) (b:=8) (by omega) (by omega)),Zc (show t<4611686018427387904 by omega),prL,if_false]
 ·simp only[Q161_B2,Q161_K2,ilt_eq,len_eq,Xn,Xg,Xe]
def priceP (c:Cs):List Int×Bool:=bif caseB c then (prL c c.1.length,true) else ([],false)
theorem ZeR {N:Nat} {c:Cs} (hs:SmC c) (hN:4194304≤N):Q27 N c=some (priceP c,()):=by
 simp only[Q27,ZK hs hN,Xa,Zt,priceP,len_eq];cases hb:caseB c with
 | false=>rfl
 | true=>simp only[Xd,ZdN (ZB.1 hb) hN]
theorem ZeS {N:Nat} {c:Cs} (hs:SmC c) (hN:4194304≤N):Q99 N c=some (priceP c,()):=by
 simp only[Q99,ZL hs hN,Xa,Zt,priceP];cases hb:caseB c with
 | false=>rfl
 | true=>simp only[Xd,Zhr (ZB.1 hb) hN,Xa]
abbrev Ac:Type:=Int×Int×Int×Int×Int
def zerosA (a:Ac):Bool:=decide (a.2.1=0) && (decide (a.2.2.1=0) && (decide (a.2.2.2.1=0) && decide (a.2.2.2.2=0)))
def openA (l:Lg) (a:Ac):Bool:=inRg l.2.2 ((l.2.1.length:Int) - 1) a.2.1 && (decide (a.2.2.2.1=0) && decide (a.2.2.2.2=0))
def aheadC (l:Lg):Cs:=(leftL l,(cutC l.1 l.2.2.toNat l.1.1.length).2)
noncomputable def aheadPer (l:Lg):List Int:=(bestSt (aheadC l) (2 ^ (aheadC l).1.length)).1
noncomputable def replanP (l:Lg):List Int:=bif ledB l then l.2.1.take l.2.2.toNat++(List.range (l.1.1.length - l.2.2.toNat)).map (fun t=>gd (Option.elim (Q20 4194304 (aheadC l) (aheadPer l)) [] (fun r=>r.1.1)) t 0) else []
theorem Zcz {l:Lg} (hb:ledB l=true):(leftL l).length=l.1.1.length - l.2.2.toNat:=by
 have h:=(ZQ.1 hb).1;rw[leftL,Zfo,h.n]
theorem ZiQ {l:Lg} (hb:ledB l=true):CaseP (aheadC l):=by
 have h:=(ZQ.1 hb).1;have h0:=ZeM hb;have hn:=h.n;have hw:=h.now;have hc:=ZqL (a:=l.2.2.toNat) h.c (Xl l.1.1.length);have hl:=Zcz hb;have hl2:=Zlz (c:=l.1) (a:=l.2.2.toNat) (Xl l.1.1.length);refine ⟨?_, ?_, ?_, ?_,fun i hi=> ?_,hc.b1,hc.b2,hc.b3⟩
 ·show (leftL l).length≤8
  have:=h.c.n;omega
 ·show _=(leftL l).length
  have:=hc.l1;show (cutC l.1 l.2.2.toNat l.1.1.length).2.1.length=_;omega
 ·show _=(leftL l).length
  have:=hc.l2;show (cutC l.1 l.2.2.toNat l.1.1.length).2.2.1.length=_;omega
 ·show _=(leftL l).length
  have:=hc.l3;show (cutC l.1 l.2.2.toNat l.1.1.length).2.2.2.length=_;omega
 ·have hi':i<l.1.1.length - l.2.2.toNat:=by rw[←hl];exact hi
  show 0≤gd (leftL l) i 0∧gd (leftL l) i 0≤20;have e:gd (leftL l) i 0=gd l.1.1 (l.2.2.toNat+i) 0 - imin (leftSt l l.2.2.toNat i) (gd l.1.1 (l.2.2.toNat+i) 0):=by
   simp only[leftL,leftTo];rw[Zbq _ _ (by omega)]
  have h1:=(Zdm h (a:=l.2.2.toNat) (by omega) h0 i (by omega)).1;have h2:=h.c.b0 (l.2.2.toNat+i) (by omega);have h3:=Zcj (x:=leftSt l l.2.2.toNat i) (y:=gd l.1.1 (l.2.2.toNat+i) 0);rw[e];omega
theorem Zid {l:Lg} (hb:ledB l=true):∃S:Nat→Bool,covS S (aheadC l).1=true∧aheadPer l=pns S (aheadC l).1.length∧costOf (aheadC l) (planS S (aheadC l).1)=leastOf (aheadC l):=by
 obtain ⟨j,_,h2,h3⟩:=ZdG (aheadC l);exact ⟨bitS j,h2,by rw[aheadPer,h3],by simp only[leastOf,h3]⟩
theorem ZjZ {l:Lg} (hb:ledB l=true) {S:Nat→Bool} (hS:covS S (aheadC l).1=true) (hP:aheadPer l=pns S (aheadC l).1.length):replanP l=l.2.1.take l.2.2.toNat++planS S (aheadC l).1:=by
 have hc:=ZiQ hb;have e:=Zag (N:=4194304) hc S (Xl _);have hl:(planS S (aheadC l).1).length=l.1.1.length - l.2.2.toNat:=by rw[planS,ZbY];exact Zcz hb
 simp only[replanP,hb,Xd,hP,e,hS,Option.elim]
 congr 1
 refine List.ext_getElem (by simp [hl]) (fun i h1 h2=> ?_);simp [gd,List.getD,List.getElem?_eq_getElem h2]
noncomputable def madeL (l:Lg) (a:Ac):Lg:=
 bif decide (a.1=1) then ((l.1.1++[a.2.1],(l.1.2.1++[a.2.2.1],(l.1.2.2.1++[a.2.2.2.1],l.1.2.2.2++[a.2.2.2.2]))),(l.2.1++[0],l.2.2)) else
 bif decide (a.1=2) then ((List.set l.1.1 a.2.1.toNat a.2.2.1,l.1.2),l.2) else
 bif decide (a.1=3) then (l.1,(List.set l.2.1 a.2.1.toNat a.2.2.1,l.2.2)) else
 bif decide (a.1=4) then (l.1,(l.2.1,l.2.2+1)) else
 bif decide (a.1=5) then (l.1,(replanP l,l.2.2)) else
 bif decide (a.1=6) then (l.1,(l.2.1.take l.2.2.toNat++List.replicate (l.2.1.length - l.2.2.toNat) 0,l.2.2)) else l
def okA (l:Lg) (a:Ac):Bool:=
 bif decide (a.1=1) then true else
 bif decide (a.1=2) then openA l a else
 bif decide (a.1=3) then openA l a else
 bif decide (a.1=4) then zerosA a && decide (l.2.2+1≤(l.2.1.length:Int)) else
 bif decide (a.1=5) then zerosA a else
 bif decide (a.1=6) then zerosA a else false
def noL:Lg:=(([],([],([],[]))),([],0))
noncomputable def actP (l:Lg) (a:Ac):Lg×Bool:=bif ledB l then (bif okA l a && ledB (madeL l a) then (madeL l a,true) else (noL,false)) else (noL,false)
theorem Zj0 (S:Nat→Bool) (need:List Int):(planS S need).length=need.length:=ZbY _ _ _
theorem Zmr {l:Lg} (hb:ledB l=true):(replanP l).length=l.2.1.length:=by
 have h:=(ZQ.1 hb).1;have hn:=h.n;have hw:=h.now;simp only[replanP,hb,Xd];simp;omega
theorem ZnH {l:Lg} (hb:ledB l=true) (a:Ac):(madeL l a).1.1.length≤9∧(madeL l a).1.2.1.length≤9∧(madeL l a).1.2.2.1.length≤9∧(madeL l a).1.2.2.2.length≤9∧(madeL l a).2.1.length≤9:=by
 have h:=(ZQ.1 hb).1;have h8:=h.c.n;have h1:=h.c.l1;have h2:=h.c.l2;have h3:=h.c.l3;have hn:=h.n;have hw:=h.now;have hr:=Zmr hb;simp only[madeL];by_cases e1:a.1=1
 ·simp only[Xc e1,Xd,Xe,Xm,List.length_cons,List.length_nil];omega
 by_cases e2:a.1=2
 ·simp only[Xb e1,Xc e2,Xd,Xe,List.length_set];omega
 by_cases e3:a.1=3
 ·simp only[Xb e1,Xb e2,Xc e3,Xd,Xe,List.length_set];omega
 by_cases e4:a.1=4
 ·simp only[Xb e1,Xb e2,Xb e3,Xc e4,Xd,Xe];omega
 by_cases e5:a.1=5
 ·simp only[Xb e1,Xb e2,Xb e3,Xb e4,Xc e5,Xd,Xe];omega
 by_cases e6:a.1=6
 ·simp only[Xb e1,Xb e2,Xb e3,Xb e4,Xb e5,Xc e6,Xd,Xe,Xm,List.length_take,List.length_replicate];omega
 ·simp only[Xb e1,Xb e2,Xb e3,Xb e4,Xb e5,Xb e6,Xe];omega
theorem ZiR {l:Lg} (hb:ledB l=true) (a:Ac):SmL (madeL l a):=by
 obtain ⟨h1,h2,h3,h4,h5⟩:=ZnH hb a;exact ⟨⟨by omega,by omega,by omega,by omega⟩,by omega⟩
theorem ZlE (xs ys:List Int) (t:Nat) (h:t+ys.length=xs.length):over xs t ys=xs.take t++ys:=by
 simp only[over];rw[List.drop_of_length_le (by omega),List.append_nil]
theorem ZqN {N:Nat} {l:Lg} (hb:ledB l=true) (a:Ac) (hN:4194304≤N):∃l',Q73_K1 N (zerosA a) (openA l a) l a=some (okA l a,l')∧(okA l a=true→l'=madeL l a):=by
 have h:=(ZQ.1 hb).1;have h8:=h.c.n;have h1:=h.c.l1;have h2:=h.c.l2;have h3:=h.c.l3;have hn:=h.n;have hw:=h.now;simp only[Q73_K1,okA,madeL,ieq_eq];by_cases e1:a.1=1
 ·simp only[Xc e1,Xd,Xe,Zf (Zn (n:=l.1.1.length+1) (b:=8) (by omega) (by omega)),Zf (Zn (n:=l.1.2.1.length+1) (b:=8) (by omega) (by omega)),Zf (Zn (n:=l.1.2.2.1.length+1) (b:=8) (by omega) (by omega)),Zf (Zn (n:=l.1.2.2.2.length+1) (b:=8) (by omega) (by omega)),Zf (Zn (n:=l.2.1.length+1) (b:=8) (by omega) (by omega))]
  exact ⟨_,rfl,fun _=>rfl⟩
 by_cases e2:a.1=2
 ·simp only[Xb e1,Xc e2,Xd,Xe]
  cases ho:openA l a with
  | false=>exact ⟨_,rfl,fun h=>by cases h⟩
  | true=>
   have hi:inB a.2.1 l.1.1.length=true:=by
    simp only[openA,inRg,Xh,Xi] at ho;simp only[inB,Xh,Xi];omega
   simp only[Xd,Zf hi];exact ⟨_,rfl,fun _=>rfl⟩
 by_cases e3:a.1=3
 ·simp only[Xb e1,Xb e2,Xc e3,Xd,Xe]
  cases ho:openA l a with
  | false=>exact ⟨_,rfl,fun h=>by cases h⟩
  | true=>
   have hi:inB a.2.1 l.2.1.length=true:=by
    simp only[openA,inRg,Xh,Xi] at ho;simp only[inB,Xh,Xi];omega
   simp only[Xd,Zf hi];exact ⟨_,rfl,fun _=>rfl⟩
 by_cases e4:a.1=4
 ·simp only[Xb e1,Xb e2,Xb e3,Xc e4,Xd,Xe,Zh (a:=l.2.2) (b:=1) (by omega) (by omega),ile_eq,len_eq]
  cases hz:zerosA a with
  | false=>exact ⟨_,rfl,fun h=>by cases h⟩
  | true=>exact ⟨_,by simp only[Xd,Bool.true_and],fun _=>rfl⟩
 by_cases e5:a.1=5
 ·obtain ⟨t,ht⟩:∃t:Nat,l.2.2=t:=⟨l.2.2.toNat,by omega⟩
  have hcut:Q14 N l.1 l.2.2 (len l.2.1)=some (cutC l.1 l.2.2.toNat l.1.1.length,()):=by
   rw[ht,len_eq,hn];exact ZfV h.c (by omega) (Xl _)
  have hcb:cutB l.2.2 (len l.2.1) l.2.1.length=true:=by rw[len_eq];exact ZA (by omega) (by omega) (by omega)
  obtain ⟨S,s1,s2,_⟩:=Zid hb;have hP:=ZiQ hb;have hbest:Q9 N (leftL l,(cutC l.1 l.2.2.toNat l.1.1.length).2)=some (bestSt (aheadC l) (2 ^ (aheadC l).1.length),()):=Zcy hP hN;have hfrom:Q20 N (leftL l,(cutC l.1 l.2.2.toNat l.1.1.length).2) (bestSt (aheadC l) (2 ^ (aheadC l).1.length)).1=some ((planS S (aheadC l).1,true),()):=by
   have:=Zag (N:=N) hP S hN;rw[←s2,s1] at this;exact this
  have hl:(planS S (aheadC l).1).length=l.1.1.length - l.2.2.toNat:=by rw[Zj0];exact Zcz hb
  simp only[Xb e1,Xb e2,Xb e3,Xb e4,Xc e5,Xd,Xe,hcut,Xa,ZaS hb hN,hbest,hfrom,Zf hcb];refine ⟨_,rfl,fun _=> ?_⟩;have e:(len l.2.1).toNat - l.2.2.toNat=(planS S (aheadC l).1).length:=by rw[len_eq,hl,hn];omega
  rw[e,List.take_length,ZjZ hb s1 s2,ZlE _ _ _ (by omega)]
 by_cases e6:a.1=6
 ·have hcb:cutB l.2.2 (len l.2.1) l.2.1.length=true:=by rw[len_eq];exact ZA (by omega) (by omega) (by omega)
  simp only[Xb e1,Xb e2,Xb e3,Xb e4,Xb e5,Xc e6,Xd,Xe,Zf hcb];refine ⟨_,rfl,fun _=> ?_⟩;rw[ZlE _ _ _ (by rw[List.length_replicate,len_eq];omega),len_eq]
  rfl
 ·simp only[Xb e1,Xb e2,Xb e3,Xb e4,Xb e5,Xb e6,Xe]
  exact ⟨_,rfl,fun h=>by cases h⟩
theorem ZqO {N:Nat} {l:Lg} (hb:ledB l=true) (a:Ac):Q73 N l a=Q73_K1 N (zerosA a) (openA l a) l a:=by
 have h:=(ZQ.1 hb).1;have h8:=h.c.n;have hn:=h.n;have hw:=h.now;have hK2:∀z:Bool,Q73_K2 N z l a=Q73_K1 N z (openA l a) l a:=fun z=>by
  have e:isub .i64 (len l.2.1) 1=(l.2.1.length:Int) - 1:=by rw[len_eq,Zv (by omega) (by omega)]
  simp only[Q73_K2,e,Zz,Xa,ieq_eq,openA];cases inRg l.2.2 ((l.2.1.length:Int) - 1) a.2.1 with
  | false=>rfl
  | true=>
   by_cases e1:a.2.2.2.1=0
   ·simp only[Xc e1,Xd,Xe,Bool.true_and]
   ·simp only[e1,Xg,Xd,Xe,Bool.true_and,Bool.false_and]
 simp only[Q73,ieq_eq,hK2,zerosA];by_cases f1:a.2.1=0<;>by_cases f2:a.2.2.1=0<;>by_cases f3:a.2.2.2.1=0<;>simp only[f1,f2,f3,Xf,Xg,Xd,Xe,Bool.true_and,Bool.false_and]
theorem Zfs {N:Nat} {l:Lg} (hs:SmL l) (a:Ac) (hN:4194304≤N):Q2 N l a=some (actP l a,()):=by
 simp only[Q2,ZM hs hN,Xa,Zt,actP];cases hb:ledB l with
 | false=>rfl
 | true=>
  obtain ⟨l',e1,e2⟩:=ZqN hb a hN;simp only[Xd,Zcb hb,Xa,ZqO hb,e1];cases ho:okA l a with
  | false=>rfl
  | true=>
   rw[e2 ho];simp only[Xd,ZM (ZiR hb a) hN,Xa,Bool.true_and];cases ledB (madeL l a)<;>rfl
def plainA (a:Ac):Bool:=bif decide (a.1=1) then true else bif decide (a.1=2) then decide (a.2.2.2.1=0) && decide (a.2.2.2.2=0) else bif decide (a.1=3) then decide (a.2.2.2.1=0) && decide (a.2.2.2.2=0) else inRg 4 6 a.1 && zerosA a
theorem ZfW (N:Nat) (a:Ac):Q128 N a=some (plainA a,()):=by
 simp only[Q128,Q128_K1,plainA,zerosA,ZI,Xa,ieq_eq];by_cases e1:a.1=1
 ·simp only[Xc e1,Xd,Xe]
 by_cases e2:a.1=2
 ·simp only[Xb e1,Xc e2,Xd,Xe]
  by_cases e:a.2.2.2.1=0<;>simp only[e,Xf,Xg,Xd,Xe,Bool.true_and,Bool.false_and]
 by_cases e3:a.1=3
 ·simp only[Xb e1,Xb e2,Xc e3,Xd,Xe]
  by_cases e:a.2.2.2.1=0<;>simp only[e,Xf,Xg,Xd,Xe,Bool.true_and,Bool.false_and]
 ·simp only[Xb e1,Xb e2,Xb e3,Xe]
  cases inRg 4 6 a.1 with
  | false=>rfl
  | true=>by_cases f1:a.2.1=0<;>by_cases f2:a.2.2.1=0<;>by_cases f3:a.2.2.2.1=0<;>simp only[f1,f2,f3,Xf,Xg,Xd,Xe,Bool.true_and,Bool.false_and]
theorem Zft {N:Nat} {l:Lg} (hb:ledB l=true) (t:Int):Q111 N l t=some (inRg l.2.2 ((l.2.1.length:Int) - 1) t,()):=by
 have h:=(ZQ.1 hb).1;have h8:=h.c.n;have hn:=h.n;have e:isub .i64 (len l.2.1) 1=(l.2.1.length:Int) - 1:=by rw[len_eq,Zv (by omega) (by omega)]
 simp only[Q111,e,ZI,Xa]
def mayA (l:Lg) (a:Ac):Bool:=bif decide (a.1=2) then inRg l.2.2 ((l.2.1.length:Int) - 1) a.2.1 else bif decide (a.1=3) then inRg l.2.2 ((l.2.1.length:Int) - 1) a.2.1 else bif decide (a.1=4) then inRg l.2.2 ((l.2.1.length:Int) - 1) l.2.2 else true
theorem Zhs {N:Nat} {l:Lg} (hb:ledB l=true) (a:Ac):Q123 N l a=some (mayA l a,()):=by
 simp only[Q123,Zft hb,Xa,ieq_eq,mayA];by_cases e2:a.1=2
 ·simp only[Xc e2,Xd,Xe]
 by_cases e3:a.1=3
 ·simp only[Xb e2,Xc e3,Xd,Xe]
 by_cases e4:a.1=4
 ·simp only[Xb e2,Xb e3,Xc e4,Xd,Xe]
 ·simp only[Xb e2,Xb e3,Xb e4,Xe]
theorem Zq9 (l:Lg) (a:Ac):(plainA a && mayA l a)=okA l a:=by
 simp only[plainA,mayA,okA,openA];by_cases e1:a.1=1
 ·simp only[e1];rfl
 by_cases e2:a.1=2
 ·simp only[e2];show ((_ && _) && _)=_
  simp only[Xf,Xd];exact Bool.and_comm _ _
 by_cases e3:a.1=3
 ·simp only[e3];show ((_ && _) && _)=_
  exact Bool.and_comm _ _
 by_cases e4:a.1=4
 ·simp only[e4]
  have:inRg l.2.2 ((l.2.1.length:Int) - 1) l.2.2=decide (l.2.2+1≤(l.2.1.length:Int)):=by
   simp only[inRg,Int.le_refl,Xf,Bool.true_and,decide_eq_decide];omega
  show ((inRg 4 6 4 && zerosA a) && inRg l.2.2 ((l.2.1.length:Int) - 1) l.2.2)=(zerosA a && _);rw[this];rfl
 by_cases e5:a.1=5
 ·simp only[e5]
  show ((inRg 4 6 5 && zerosA a) && true)=zerosA a;rw[Bool.and_true];rfl
 by_cases e6:a.1=6
 ·simp only[e6]
  show ((inRg 4 6 6 && zerosA a) && true)=zerosA a;rw[Bool.and_true];rfl
 ·have:inRg 4 6 a.1=false:=by
   cases hh:inRg 4 6 a.1 with
   | false=>rfl
   | true=>simp only[inRg,Xh,Xi] at hh;omega
  simp only[Xb e1,Xb e2,Xb e3,Xb e4,Xb e5,Xb e6,Xe,this,Bool.false_and]
theorem ZfX {N:Nat} {l:Lg} (hb:ledB l=true) (hN:4194304≤N):Q109 N l=some (aheadC l,()):=by
 have h:=(ZQ.1 hb).1;have h8:=h.c.n;have h1:=h.c.l1;have h2:=h.c.l2;have h3:=h.c.l3;have hw:=h.now;obtain ⟨t,ht⟩:∃t:Nat,l.2.2=t:=⟨l.2.2.toNat,by omega⟩
 have hcb:∀xs:List Int,xs.length=l.1.1.length→cutB l.2.2 (len xs) xs.length=true:=fun xs hx=>by rw[len_eq];exact ZA (by omega) (by omega) (by omega)
 have hcl:∀xs:List Int,xs.length=l.1.1.length→(cut xs l.2.2 (len xs)).length<4194303:=fun xs hx=>by simp only[cut,List.length_drop,List.length_take];omega
 simp only[Q109,Zdn hb hN,Xa,Zf (hcb _ h1),Zf (hcb _ h2),Zf (hcb _ h3),Z7 (hcl _ h1),Z7 (hcl _ h2),Z7 (hcl _ h3),aheadC,cutC];rw[len_eq,len_eq,len_eq,h1,h2,h3,ht,Xj]
theorem Zg6 {N:Nat} {l:Lg} (hb:ledB l=true) (a:Ac) (ho:okA l a=true) (hN:4194304≤N):Q122 N l a=some (madeL l a,()):=by
 have h:=(ZQ.1 hb).1;have h8:=h.c.n;have h1:=h.c.l1;have h2:=h.c.l2;have h3:=h.c.l3;have hn:=h.n;have hw:=h.now;simp only[okA] at ho;simp only[Q122,ZdY hb,Xa,ieq_eq,madeL];have hcb0:cutB 0 l.2.2 l.2.1.length=true:=ZA (by omega) (by omega) (by omega);have hcut:cut l.2.1 0 l.2.2=l.2.1.take l.2.2.toNat:=by simp [cut]
 have hown:Q141 N (cut l.2.1 0 l.2.2)=some (l.2.1.take l.2.2.toNat,()):=by
  rw[hcut];exact Z7 (by rw[List.length_take];omega)
 by_cases e1:a.1=1
 ·simp only[Xc e1,Xd,Xe,Zf (Zn (n:=l.1.1.length+1) (b:=8) (by omega) (by omega)),Zf (Zn (n:=l.1.2.1.length+1) (b:=8) (by omega) (by omega)),Zf (Zn (n:=l.1.2.2.1.length+1) (b:=8) (by omega) (by omega)),Zf (Zn (n:=l.1.2.2.2.length+1) (b:=8) (by omega) (by omega)),Zf (Zn (n:=l.2.1.length+1) (b:=8) (by omega) (by omega))]
 by_cases e2:a.1=2
 ·simp only[Xb e1,Xc e2,Xd,Xe] at ho ⊢
  have hi:inB a.2.1 l.1.1.length=true:=by
   simp only[openA,inRg,Xh,Xi] at ho;simp only[inB,Xh,Xi];omega
  simp only[Zf hi]
 by_cases e3:a.1=3
 ·simp only[Xb e1,Xb e2,Xc e3,Xd,Xe] at ho ⊢
  have hi:inB a.2.1 l.2.1.length=true:=by
   simp only[openA,inRg,Xh,Xi] at ho;simp only[inB,Xh,Xi];omega
  simp only[Zf hi]
 by_cases e4:a.1=4
 ·simp only[Xb e1,Xb e2,Xb e3,Xc e4,Xd,Xe,Zh (a:=l.2.2) (b:=1) (by omega) (by omega)]
 by_cases e5:a.1=5
 ·obtain ⟨S,s1,s2,_⟩:=Zid hb
  have hP:=ZiQ hb;have hl:(planS S (aheadC l).1).length=l.1.1.length - l.2.2.toNat:=by rw[Zj0];exact Zcz hb
  have hfrom:Q152 N (aheadC l) (bestSt (aheadC l) (2 ^ (aheadC l).1.length)).1=some (planS S (aheadC l).1,()):=by
   have:=Zbn (N:=N) hP S hN;rw[←s2] at this;exact this
  have hf:fitB ((l.2.1.take l.2.2.toNat).length+(planS S (aheadC l).1).length) 8=true:=Zn (by rw[List.length_take];omega) (by omega)
  simp only[Xb e1,Xb e2,Xb e3,Xb e4,Xc e5,Xd,Xe,ZfX hb hN,Xa,Zf hcb0,hown,ZdW hP hN,hfrom,Zf hf,ZjZ hb s1 s2]
 by_cases e6:a.1=6
 ·have e:isub .i64 (len l.2.1) l.2.2=(l.2.1.length:Int) - l.2.2:=by rw[len_eq,Zv (by omega) (by omega)]
  have hz:mkZ ((l.2.1.length:Int) - l.2.2) (l.2.1.take l.2.2.toNat).length 8=true:=by
   simp only[mkZ,Xh,Xi];exact ⟨by omega,Zn (by rw[List.length_take];omega) (by omega)⟩
  simp only[Xb e1,Xb e2,Xb e3,Xb e4,Xb e5,Xc e6,Xd,Xe,Zf hcb0,hown,Xa,e,Zf hz];rw[show ((l.2.1.length:Int) - l.2.2).toNat=l.2.1.length - l.2.2.toNat by omega]
 ·simp only[Xb e1,Xb e2,Xb e3,Xb e4,Xb e5,Xb e6,Xe]
theorem ZeT {N:Nat} {l:Lg} (hb:ledB l=true) (a:Ac) (hN:4194304≤N):Q114 N l a=some (actP l a,()):=by
 simp only[Q114,ZfW,Xa,Zt,actP,hb,Xd];have hok:=Zq9 l a;cases hp:plainA a with
 | false=>
  rw[hp] at hok;rw[←hok];rfl
 | true=>
  rw[hp,Bool.true_and] at hok;simp only[Xd,Zhs hb,Xa,hok];cases ho:okA l a with
  | false=>rfl
  | true=>
   simp only[Xd,Zg6 hb a ho hN,Xa,Zab (ZiR hb a) hN,Bool.true_and];cases ledB (madeL l a)<;>rfl
theorem ZnI {l:Lg} (a:Ac):SmL (actP l a).1:=by
 have h0:SmL noL:=⟨⟨by simp [noL],by simp [noL],by simp [noL],by simp [noL]⟩,by simp [noL]⟩;simp only[actP];cases hb:ledB l with
 | false=>exact h0
 | true=>
  cases okA l a && ledB (madeL l a) with
  | false=>exact h0
  | true=>exact ZiR hb a
theorem ZqP (f:Nat→Int) {n k:Nat} (h:k<n):gd ((List.range n).map f) k 0=f k:=Zbq f 0 h
theorem ZlF {l:Lg} {a:Ac} (h:(actP l a).2=true):ledB (actP l a).1=true:=by
 simp only[actP] at h ⊢;cases hb:ledB l with
 | false=>rw[hb] at h;cases h
 | true=>
  rw[hb] at h;simp only[Xd] at h ⊢;cases ho:okA l a && ledB (madeL l a) with
  | false=>rw[ho] at h;cases h
  | true=>
   simp only[Xh] at ho;exact ho.2
def chr (s:Xo) (i:Nat):Nat:=(s[i]?.getD 0).toNat
theorem Zaq (s:Xo) (i:Nat):sbyte s (i:Int)=(chr s i:Int):=rfl
def plB (s:Xo):Bool:=(List.range s.size).all fun i=>decide (32≤chr s i) && decide (chr s i≤126)
def hasB (s:Xo) (c:Nat):Bool:=(List.range s.size).any fun i=>decide (chr s i=c)
theorem ZeU (s:Xo) (i:Nat) (h:i<s.size):s.data.toList[i]? =some (s[i]?.getD 0):=by
 have h1:i<s.data.toList.length:=by simpa using h
 rw[List.getElem?_eq_getElem h1];simp [h];rfl
theorem Zee {s:Xo}:plB s=true↔∀i,i<s.size→32≤chr s i∧chr s i≤126:=by
 simp [plB,List.all_eq_true]
theorem Zcd {s:Xo} {c:Nat}:hasB s c=true↔∃i,i<s.size∧chr s i=c:=by
 simp [hasB,List.any_eq_true]
theorem ZnJ {s:Xo} (h:plB s=true) (h2:s.size<4194304):asciiB s=true:=by
 simp only[asciiB,Xh,Xi,List.all_eq_true];refine ⟨by omega,fun b hb=> ?_⟩;obtain ⟨i,hi,e⟩:=List.mem_iff_getElem.1 hb;have hi':i<s.size:=by simpa using hi
 have h1:=ZeU s i hi';rw[List.getElem?_eq_getElem hi,Option.some.injEq,e] at h1;have:=(Zee.1 h) i hi';unfold chr at this;rw[←h1] at this;omega
theorem Zp7 (s:Xo) (cs:List UInt8):(s.data.toList.any fun b=>cs.contains b)=cs.any fun c=>hasB s c.toNat:=by
 rw[Bool.eq_iff_iff];simp only[List.any_eq_true,List.contains_iff_mem,Zcd];constructor
 ·rintro ⟨b,hb,hc⟩
  obtain ⟨i,hi,e⟩:=List.mem_iff_getElem.1 hb;have hi':i<s.size:=by simpa using hi
  have h1:=ZeU s i hi';rw[List.getElem?_eq_getElem hi,Option.some.injEq,e] at h1;exact ⟨b,hc,i,hi',by unfold chr;rw[←h1]⟩
 ·rintro ⟨c,hc,i,hi,e⟩
  have h1:=ZeU s i hi;have e2:s[i]?.getD 0=c:=UInt8.toNat_inj.1 e;rw[e2] at h1;exact ⟨c,List.mem_of_getElem? h1,hc⟩
end Go.Rx.Px
