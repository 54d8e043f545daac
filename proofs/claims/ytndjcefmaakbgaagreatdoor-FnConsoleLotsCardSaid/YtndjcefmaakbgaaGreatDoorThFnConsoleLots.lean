/- This text proves, of the plain functions behind FnConsoleLots, that the law answers true (part 2 of 2); no condition beyond the ranges that its arguments have. -/
import Derived.Test.YtndjcefmaakbgaaGreatDoorThAFnConsoleLots
set_option linter.unusedVariables false
set_option linter.unusedSimpArgs false
namespace Go.Rx.Px
theorem impl_AppendRecord_eq {N:Nat} {l:Lo} {e:ByteArray×ByteArray} (h1:l.1.size<4194304) (h2:l.2.1.size<4194304) (s1:e.1.size<4194304) (s2:e.2.size<4194304) (hN:4194304≤N):Q4 N l e=some (appT l e,()):=by
  simp only[Q4,impl_IsValidLog_eq h1 h2 hN,Option.bind_some,impl_IsValidRecord_eq s1 s2 hN,impl_EncodeRecord_eq (k:=l.2.2) s1 s2 hN,appT]
  cases hv:logB l with
  | false=>rfl
  | true=>
    have hs:=logB_small hv
    cases hr:recB e with
    | false=>rfl
    | true=>
      simp only[Bool.not_true,cond_false,encT,hr,and_true]
      by_cases c:l.2.2=60
      · rw[if_neg (by simp [inRg,c]),if_pos trivial,if_pos c];rfl
      · have hin:inRg 0 59 l.2.2=true:=by simp only[inRg,Bool.and_eq_true,decide_eq_true_eq];omega
        have hln:=(app_facts hv hr c).2.2
        rw[if_pos hin,if_pos trivial,if_neg c]
        have e1:lineT l.2.2 (bts e.1) (bts e.2)=lineOf l.2.2 e:=rfl
        simp only[Bool.not_true,cond_false]
        rw[e1,sfit_in (by rw[size_bts (txt _),bts_txt];omega),chk_true',scat_eq,bts_txt,iadd_in (by omega) (by omega)]
theorem spec_l1Least_any (N:Nat) (a b:Int):∃v,Q98 N a b=some (v,()):=⟨_,spec_l1Least_eq N a b⟩
theorem spec_l1Most_any (N:Nat) (a b:Int):∃v,Q99 N a b=some (v,()):=by
  simp only[Q99];cases ilt b a<;>exact ⟨_,rfl⟩
theorem act12_K1_ok {N:Nat} {cu:Cu} {k:Nat} (v4 v5:Ac) (h:Bud cu (k+4)):∃a c',Q73_K1 N cu v4 v5=some (a,c')∧Bud c' k:=by
  obtain ⟨r,c1,e1,b1,_⟩:=pick_ok (N:=N) (k:=k+2) 32 h
  obtain ⟨x,c2,e2,b2,_⟩:=among_ok (N:=N) (list:=[(-1),8,4611686018427387904]) (-1) 4611686018427387904 (by decide) (by decide) b1
  obtain ⟨y,c3,e3,b3,_⟩:=among_ok (N:=N) (list:=[1,(-1),10]) (-1) 10 (by decide) (by decide) b1
  obtain ⟨z,c4,e4,b4,_⟩:=among_ok (N:=N) (list:=[0,7,(-1)]) (-1) 7 (by decide) (by decide) b1
  simp only[Q73_K1,e1,e2,e3,e4,Option.bind_some,ieq_eq]
  cases decide (r=0) with
  | true=>exact ⟨_,_,rfl,b2⟩
  | false=>
    cases decide (r=1) with
    | true=>exact ⟨_,_,rfl,b3⟩
    | false=>
      cases decide (r=2) with
      | true=>exact ⟨_,_,rfl,b4⟩
      | false=>exact ⟨_,_,rfl,b1.mono (by omega)⟩
theorem act12_ok {N:Nat} {cu:Cu} {k:Nat} (l:Lg) (h:Bud cu (k+14)):∃a c',Q73 N cu l=some (a,c')∧Bud c' k:=by
  obtain ⟨r,c1,e1,b1,_⟩:=among_ok (N:=N) (k:=k+12) (list:=[1,2,3,3,3,4,4,4,5,5,6]) 1 6 (by decide) (by decide) h
  obtain ⟨m,e2⟩:=spec_l1Least_any N (len l.2.1) 8
  obtain ⟨m2,e3⟩:=spec_l1Most_any N 1 m
  obtain ⟨m3,e4⟩:=spec_l1Least_any N l.2.2 8
  obtain ⟨m4,e5⟩:=spec_l1Most_any N 0 m3
  simp only[Q73,e1,e2,e3,e4,e5,Option.bind_some,ieq_eq]
  cases decide (r=1) with
  | true=>
    obtain ⟨x1,d1,f1,g1,_⟩:=pick_ok (N:=N) (k:=k+10) 9 b1
    obtain ⟨x2,d2,f2,g2,_⟩:=pick_ok (N:=N) (k:=k+8) 12 g1
    obtain ⟨x3,d3,f3,g3,_⟩:=pick_ok (N:=N) (k:=k+6) 4 g2
    obtain ⟨x4,d4,f4,g4,_⟩:=pick_ok (N:=N) (k:=k+4) 3 g3
    simp only[cond_true,f1,f2,f3,f4,Option.bind_some]
    exact act12_K1_ok _ _ g4
  | false=>
    obtain ⟨x1,d1,f1,g1,_⟩:=pick_ok (N:=N) (k:=k+10) 3 b1
    obtain ⟨m5,e6⟩:=spec_l1Least_any N (isub .i64 m2 1) (iadd .i64 m4 x1)
    simp only[cond_false,f1,e6,Option.bind_some]
    cases decide (r=2) with
    | true=>
      obtain ⟨x2,d2,f2,g2,_⟩:=among_ok (N:=N) (k:=k+8) (list:=[0,1,3,8,20,21]) 0 21 (by decide) (by decide) g1
      simp only[cond_true,f2,Option.bind_some]
      exact act12_K1_ok _ _ (g2.mono (by omega))
    | false=>
      simp only[cond_false]
      cases decide (r=3) with
      | true=>
        obtain ⟨x2,d2,f2,g2,_⟩:=among_ok (N:=N) (k:=k+8) (list:=[5,8,3,0,20,200,201]) 0 201 (by decide) (by decide) g1
        simp only[cond_true,f2,Option.bind_some]
        exact act12_K1_ok _ _ (g2.mono (by omega))
      | false=>
        simp only[cond_false]
        exact act12_K1_ok _ _ (b1.mono (by omega))
theorem ledger_K1_ok {N:Nat} {cu:Cu} {k:Nat} {v2 l:Lg} (hs:SmC l.1) (hp:l.2.1.length≤9) (h:Bud cu (k+4)):∃out c',Q76_K1 N cu v2 l=some (out,c')∧Bud c' k∧SmL out:=by
  obtain ⟨r,c1,e1,b1,_⟩:=pick_ok (N:=N) (k:=k+2) 48 h
  obtain ⟨x,c2,e2,b2,_⟩:=among_ok (N:=N) (list:=[(-1),8,9]) (-1) 9 (by decide) (by decide) b1
  obtain ⟨y,c3,e3,b3,_⟩:=among_ok (N:=N) (list:=[0,(-1),201]) (-1) 201 (by decide) (by decide) b1
  obtain ⟨z,c4,e4,b4,_⟩:=among_ok (N:=N) (list:=[0,200,201,(-1)]) (-1) 201 (by decide) (by decide) b1
  simp only[Q76_K1,e1,e2,e3,e4,Option.bind_some,ieq_eq,ilt_eq,len_eq,chk_of (fitB_in (n:=l.2.1.length+1) (b:=8) (by omega) (by omega))]
  cases decide (r=0) with
  | true=>exact ⟨_,_,rfl,b2,hs,by show l.2.1.length<_;omega⟩
  | false=>
    cases decide (r=1) with
    | true=>exact ⟨_,_,rfl,b3,hs,by show (l.2.1++[y]).length<_;simp;omega⟩
    | false=>
      cases decide (r=2) with
      | true=>
        simp only[cond_true,cond_false]
        by_cases q:(0:Int)<l.2.1.length
        · rw[decide_eq_true q,chk_of (inB_in (i:=0) (n:=l.2.1.length) (by omega) (by omega))]
          exact ⟨_,_,rfl,b4,hs,by show (List.set _ _ _).length<_;rw[List.length_set];omega⟩
        · rw[decide_eq_false q]
          exact ⟨_,_,rfl,b1.mono (by omega),hs,by omega⟩
      | false=>exact ⟨_,_,rfl,b1.mono (by omega),hs,by omega⟩
theorem actP_nine {l:Lg} {a:Ac} (h:(actP l a).2=true):(actP l a).1.2.1.length≤9:=by
  have h1:=(led_iff.1 (actP_led h)).1
  have:=h1.n
  have:=h1.c.n
  omega
theorem ledger_loop {N:Nat} {v2:Lg} (hN:4194304≤N):∀(d k:Nat) (cu:Cu) (l:Lg),d≤100→SmC l.1→l.2.1.length≤9→Bud cu (k+4+14*d)→∃out c',(∀m,d<m→Q76_L1 N m d cu v2 l=some (out,c'))∧Bud c' k∧SmL out
  | 0,k,cu,l,_,hs,hp,h=>by
    obtain ⟨out,c',e,b,s⟩:=ledger_K1_ok (N:=N) (k:=k) (v2:=v2) hs hp (h.mono (by omega))
    refine ⟨out,c',fun m hm=> ?_,b,s⟩
    obtain ⟨m',rfl⟩:∃m',m=m'+1:=⟨m - 1,by omega⟩
    rw[Q76_L1_succ]
    simp only[Q76_B1,ilt_eq,show decide ((0:Int)<((0:Nat):Int))=false by decide,cond_false,e]
  | d+1,k,cu,l,hd,hs,hp,h=>by
    have hd1:isub .i64 ((d+1:Nat):Int) 1=(d:Int):=by rw[isub_in (by omega) (by omega)];omega
    have hpos:decide ((0:Int)<((d+1:Nat):Int))=true:=decide_eq_true (by omega)
    cases hb:ledB l with
    | false=>
      obtain ⟨out,c',e,b,s⟩:=ledger_K1_ok (N:=N) (k:=k) (v2:=v2) hs hp (h.mono (show k+4≤k+4+14*(d+1) by omega))
      refine ⟨out,c',fun m hm=> ?_,b,s⟩
      obtain ⟨m',rfl⟩:∃m',m=m'+1:=⟨m - 1,by omega⟩
      rw[Q76_L1_succ]
      simp only[Q76_B1,ilt_eq,hpos,cond_true,spec_l12Good_eq ⟨hs,by omega⟩ hN,hb,Option.bind_some,cond_false,e]
    | true=>
      obtain ⟨a,c1,e1,b1⟩:=act12_ok (N:=N) (k:=k+4+14*d) l (h.mono (by omega))
      have e2:=spec_l12Do_eq (N:=N) hb a hN
      cases ha:(actP l a).2 with
      | true=>
        obtain ⟨out,c',e,b,s⟩:=ledger_loop (v2:=v2) hN d k c1 (actP l a).1 (by omega) (actP_sm a).c (actP_nine ha) b1
        refine ⟨out,c',fun m hm=> ?_,b,s⟩
        obtain ⟨m',rfl⟩:∃m',m=m'+1:=⟨m - 1,by omega⟩
        rw[Q76_L1_succ]
        simp only[Q76_B1,ilt_eq,hpos,cond_true,spec_l12Good_eq ⟨hs,by omega⟩ hN,hb,Option.bind_some,e1,e2,ha,hd1]
        exact e m' (by omega)
      | false=>
        obtain ⟨out,c',e,b,s⟩:=ledger_loop (v2:=v2) hN d k c1 l (by omega) hs hp b1
        refine ⟨out,c',fun m hm=> ?_,b,s⟩
        obtain ⟨m',rfl⟩:∃m',m=m'+1:=⟨m - 1,by omega⟩
        rw[Q76_L1_succ]
        simp only[Q76_B1,ilt_eq,hpos,cond_true,spec_l12Good_eq ⟨hs,by omega⟩ hN,hb,Option.bind_some,e1,e2,ha,hd1,cond_false]
        exact e m' (by omega)
theorem ledger_ok {N:Nat} {cu:Cu} {k:Nat} (hN:4194304≤N) (h:Bud cu (k+1500)):∃l c',Q76 N cu=some (l,c')∧Bud c' k∧SmL l:=by
  obtain ⟨c,c1,e1,b1,s1⟩:=someLots_ok (N:=N) (k:=k+1420) (v1:=6) hN (by omega) h
  obtain ⟨p,c2,e2,b2,s2⟩:=amounts_ok (N:=N) (k:=k+120) s1 hN b1
  obtain ⟨r,c3,e3,b3,v1,v2⟩:=pick_ok (N:=N) (k:=k+100) 6 (b2.mono (by omega))
  obtain ⟨d,rfl⟩:∃d:Nat,r=d:=⟨r.toNat,by omega⟩
  obtain ⟨out,c',e4,b4,s4⟩:=ledger_loop (N:=N) (v2:=(([],([],([],[]))),([],0))) hN d k c3 (c,(p,0)) (by omega) s1.smC s2 (b3.mono (by omega))
  exact ⟨out,c',by simp only[Q76,e1,e2,e3,Option.bind_some,e4 N (by omega)],b4,s4⟩
theorem spec_DrawIsLedger_ok {N:Nat} {code:List Int} (h:Bud (code,(0,0)) 2000) (hN:4194304≤N):∃l,Q84 N code=some (l,())∧SmL l:=by
  obtain ⟨l,c',e,_,s⟩:=ledger_ok (N:=N) (k:=0) hN (h.mono (by omega))
  exact ⟨l,by simp only[Q84,e,Option.bind_some],s⟩
def holdA (holds:List Int):Int:=gd holds 0 0 - (cut holds (1:Nat) (holds.length:Nat)).sum
def hA (holds:List Int) (g:Nat):Int:=if g=0 then holdA holds else gd holds g 0
theorem gdl_set {xs:Pl} {i j:Nat} {v:List Int} (hi:i<xs.length):gd (List.set xs i v) j []=if j=i then v else gd xs j []:=by
  by_cases e:j=i
  · subst e;rw[if_pos rfl];simp [gd,List.getD_eq_getElem?_getD,hi]
  · rw[if_neg e];simp [gd,List.getD_eq_getElem?_getD,List.getElem?_set_ne (Ne.symm e)]
structure PerLen (P:Pl) (n:Nat):Prop where
  l:P.length≤n
  r:∀s,s<P.length→(gd P s []).length≤16
theorem PerLen.cons {P:Pl} {n:Nat} {l:List Int} (h:PerLen P n) (hl:l.length≤16):PerLen ([l]++P) (n+1):=⟨by have:=h.l;simp;omega,fun s hs=>by
  cases s with
  | zero=>exact hl
  | succ s=>exact h.r s (by simp at hs;omega)⟩
theorem PerLen.set {P:Pl} {n:Nat} {l:List Int} (h:PerLen P n) (h0:0<P.length) (hl:l.length≤16):PerLen (List.set P 0 l) n:=⟨by have:=h.l;simp;omega,fun s hs=>by
  rw[List.length_set] at hs
  rw[gdl_set h0]
  split
  · exact hl
  · exact h.r s hs⟩
structure Rect (P:Pl) (K n:Nat):Prop where
  l:P.length=K
  r:∀s,s<K→(gd P s []).length=n
theorem Rect.set {P:Pl} {K n s:Nat} {x:List Int} (h:Rect P K n) (hs:s<K) (hx:x.length=n):Rect (List.set P s x) K n:=⟨by rw[List.length_set];exact h.l,fun r hr=>by
  rw[gdl_set (by rw[h.l];exact hs)]
  split
  · exact hx
  · exact h.r r hr⟩
theorem join_snoc (xs:List (List UInt8)) (x sep:List UInt8) (h:xs≠[]):Lib.join (xs++[x]) sep=Lib.join xs sep++sep++x:=by
  cases xs with
  | nil=>exact absurd rfl h
  | cons a r=>rw[List.cons_append,Lib.join_cons,Lib.join_cons];simp [Lib.joinTail,List.map_append,List.flatten_append]
def wordsT (c:UInt8) (f:Nat→List UInt8) (n:Nat):List UInt8:=Lib.join ((List.range n).map f) [c]
theorem wordsT_zero (c:UInt8) (f:Nat→List UInt8):wordsT c f 0=[]:=rfl
theorem wordsT_one (c:UInt8) (f:Nat→List UInt8):wordsT c f 1=f 0:=by simp [wordsT,Lib.join_one]
theorem wordsT_succ (c:UInt8) (f:Nat→List UInt8) {n:Nat} (h:0<n):wordsT c f (n+1)=wordsT c f n++[c]++f n:=by
  unfold wordsT
  rw[List.range_succ,List.map_append,List.map_cons,List.map_nil,join_snoc _ _ _ (by simp;omega)]
theorem wordsT_len (c:UInt8) (f:Nat→List UInt8) {k:Nat}:∀n,(∀i,i<n→(f i).length≤k)→(wordsT c f n).length≤n*(k+1)
  | 0,_=>by simp [wordsT_zero]
  | n+1,h=>by
    have h1:=wordsT_len c f n (fun i hi=>h i (by omega))
    have h2:=h n (by omega)
    have e:(n+1)*(k+1)=n*(k+1)+(k+1):=by rw[Nat.add_mul];omega
    by_cases hn:n=0
    · subst hn;rw[wordsT_one];omega
    · rw[wordsT_succ c f (by omega)];simp;omega
theorem strings_Join_words {N:Nat} {c:UInt8} {f:Nat→List UInt8} {n k:Nat} (hn:n<100000) (hk:k≤1000) (h:∀i,i<n→(f i).length≤k):strings_Join N ((List.range n).map fun i=>txt (f i)) (txt [c])=some (txt (wordsT c f n),()):=by
  have e:((List.range n).map fun i=>txt (f i)).map (·.data.toList)=(List.range n).map f:=by rw[List.map_map];rfl
  have e2:(txt [c]).data.toList=[c]:=rfl
  have h1:=wordsT_len c f n h
  have h2:n*(k+1)≤100000*1001:=Nat.mul_le_mul (by omega) (by omega)
  have h3:joinB ((List.range n).map fun i=>txt (f i)) (txt [c])=true:=by
    simp only[joinB,e,e2,List.length_map,List.length_range,Bool.and_eq_true,decide_eq_true_eq]
    exact ⟨by omega,by show (wordsT c f n).length≤_;omega⟩
  simp only[strings_Join,h3,chk_true',e,e2]
  rfl
theorem numT_len21 {n:Int} (h0: -1000000000000000000<n) (h1:n<1000000000000000000):(numT n).length≤21:=Lib.itoa_length_le n (by omega) (by omega)
theorem lexC_bef:∀(a b:List Int),a.length=b.length→(lexC a b<0↔∃j,j<a.length∧(∀i,i<j→gd a i 0=gd b i 0)∧gd a j 0<gd b j 0)
  | [],[],_=>by simp [lexC]
  | [],_::_,h | _::_,[],h=>by simp at h
  | a::x,b::y,h=>by
    have hl:x.length=y.length:=by simpa using h
    have ih:=lexC_bef x y hl
    simp only[lexC]
    by_cases h1:a<b
    · rw[if_pos h1]
      exact ⟨fun _=>⟨0,by simp,fun i hi=>by omega,by simpa [gd] using h1⟩,fun _=>by omega⟩
    · by_cases h2:b<a
      · rw[if_neg h1,if_pos h2]
        refine ⟨fun h=>by omega,fun ⟨j,j1,j2,j3⟩=> ?_⟩
        cases j with
        | zero=>simp [gd] at j3;omega
        | succ j=>have:=j2 0 (by omega);simp [gd] at this;omega
      · rw[if_neg h1,if_neg h2,ih]
        have hab:a=b:=by omega
        subst hab
        constructor
        · rintro ⟨j,j1,j2,j3⟩
          refine ⟨j+1,by simpa using j1,fun i hi=> ?_,by simpa [gd] using j3⟩
          cases i with
          | zero=>simp [gd]
          | succ i=>have:=j2 i (by omega);simpa [gd] using this
        · rintro ⟨j,j1,j2,j3⟩
          cases j with
          | zero=>simp [gd] at j3
          | succ j=>exact ⟨j,by simpa using j1,fun i hi=>by have:=j2 (i+1) (by omega);simpa [gd] using this,by simpa [gd] using j3⟩
theorem bef_setC (a b:List Int):befB a b=decide (setC a b<0):=by
  rw[Bool.eq_iff_iff]
  simp only[befB,Bool.or_eq_true,Bool.and_eq_true,decide_eq_true_eq]
  by_cases h:a.length=b.length
  · have e:setC a b=lexC a b:=by unfold setC;rw[if_pos h]
    rw[e,lexC_bef a b h]
    simp only[h,Nat.lt_irrefl,false_or,true_and,lexlt]
    rw[decide_eq_true_iff]
  · have e:setC a b=(a.length:Int) - (b.length:Int):=by unfold setC;rw[if_neg h]
    rw[e]
    simp only[h,false_and,or_false]
    omega
theorem pns_mem {S:Nat→Bool} {n:Nat} {x:Int}:x∈pns S n↔∃i,i<n∧S i=true∧(i:Int)=x:=by
  simp only[pns,List.mem_map,List.mem_filter,List.mem_range]
  exact ⟨fun ⟨i,⟨h1,h2⟩,h3⟩=>⟨i,h1,h2,h3⟩,fun ⟨i,h1,h2,h3⟩=>⟨i,⟨h1,h2⟩,h3⟩⟩
theorem pns_same {S T:Nat→Bool} {n:Nat} (h:pns S n=pns T n) {i:Nat} (hi:i<n):S i=T i:=by
  have h1:((i:Int)∈pns S n)↔((i:Int)∈pns T n):=by rw[h]
  rw[pns_mem,pns_mem] at h1
  rw[Bool.eq_iff_iff]
  constructor
  · intro hs
    obtain ⟨j,_,j2,j3⟩:=h1.1 ⟨i,hi,hs,rfl⟩
    obtain rfl:j=i:=by omega
    exact j2
  · intro hs
    obtain ⟨j,_,j2,j3⟩:=h1.2 ⟨i,hi,hs,rfl⟩
    obtain rfl:j=i:=by omega
    exact j2
theorem bits_inj {n j k:Nat} (hj:j<2 ^ n) (hk:k<2 ^ n) (h:pns (bitS j) n=pns (bitS k) n):j=k:=by
  apply Nat.eq_of_testBit_eq
  intro i
  by_cases hi:i<n
  · exact pns_same h hi
  · have h2:2 ^ n≤2 ^ i:=Nat.pow_le_pow_right (by omega) (by omega)
    rw[Nat.testBit_lt_two_pow (by omega),Nat.testBit_lt_two_pow (by omega)]
def setsL (n:Nat):List (List Int):=(List.range (2 ^ n)).map fun k=>pns (bitS k) n
def sortL (n:Nat):List (List Int):=(setsL n).mergeSort leC
theorem setsL_mem {n:Nat} {x:List Int}:x∈setsL n↔∃k,k<2 ^ n∧x=pns (bitS k) n:=by
  simp only[setsL,List.mem_map,List.mem_range]
  exact ⟨fun ⟨k,h1,h2⟩=>⟨k,h1,h2.symm⟩,fun ⟨k,h1,h2⟩=>⟨k,h1,h2.symm⟩⟩
theorem sortL_mem {n:Nat} {x:List Int}:x∈sortL n↔∃k,k<2 ^ n∧x=pns (bitS k) n:=by
  unfold sortL;rw[List.mem_mergeSort,setsL_mem]
theorem setsL_nodup (n:Nat):(setsL n).Nodup:=by
  unfold setsL
  rw[List.Nodup,List.pairwise_map]
  refine List.Pairwise.imp_of_mem (fun {a b} ha hb h=>fun e=>h (bits_inj (List.mem_range.1 ha) (List.mem_range.1 hb) e)) (List.nodup_range (n:=2 ^ n))
theorem sortL_len (n:Nat):(sortL n).length=2 ^ n:=by simp [sortL,setsL,List.length_mergeSort]
theorem sortL_gd {n i:Nat} (hi:i<(sortL n).length):∃k,k<2 ^ n∧gd (sortL n) i []=pns (bitS k) n:=by
  have:gd (sortL n) i []∈sortL n:=mem_getD [] hi
  exact sortL_mem.1 this
theorem leC_trans (x y z:List Int) (h1:leC x y=true) (h2:leC y z=true):leC x z=true:=by
  simp only[leC,Bool.not_eq_true',decide_eq_false_iff_not] at h1 h2 ⊢
  exact setC_ntrans h2 h1
theorem leC_total (x y:List Int):(leC x y || leC y x)=true:=by
  have:=setC_neg x y
  simp only[leC,Bool.or_eq_true,Bool.not_eq_true',decide_eq_false_iff_not]
  omega
theorem sortL_up {n i j:Nat} (hij:i<j) (hj:j<(sortL n).length):befB (gd (sortL n) j []) (gd (sortL n) i [])=false:=by
  have h:=List.pairwise_mergeSort leC_trans leC_total (setsL n)
  have h2:=List.pairwise_iff_getElem.1 h i j (by have:=hj;unfold sortL at this;omega) (by have:=hj;unfold sortL at this;exact this) hij
  have e:∀(k:Nat) (hk:k<(sortL n).length),gd (sortL n) k []=((setsL n).mergeSort leC)[k]'(by unfold sortL at hk;exact hk):=fun k hk=>by
    simp only[gd,List.getD_eq_getElem?_getD,List.getElem?_eq_getElem hk,Option.getD_some];rfl
  rw[e i (by omega),e j hj,bef_setC]
  simp only[leC,Bool.not_eq_true',decide_eq_false_iff_not] at h2
  exact decide_eq_false h2
theorem impl_sets_eq {N n:Nat} (hn:n≤8) (hN:4194304≤N):Q65 N n=some (sortL n,()):=by
  have hp:=pow_le8 hn
  simp only[Q65,ile_eq,show (0:Int)≤(n:Int) by omega,decide_true,chk_true',ishl_one (show n≤30 by omega)]
  refine Q65_L2_run N (fun _=>(n:Int)) (fun _=>((2 ^ n:Nat):Int)) (fun k=>(k:Int)) (fun k=>(List.range k).map fun k=>pns (bitS k) n) (2 ^ n) (fun k hk kx=> ?_) (fun kx=> ?_) N (by omega)
  · simp only[Q65_B2,ilt_eq,Int.ofNat_lt,hk,decide_true,cond_true]
    refine Q65_L1_run N kx (fun _=>(n:Int)) (fun _=>(k:Int)) (fun _=>((2 ^ n:Nat):Int)) (fun _=>(k:Int)) (fun _=>(n:Int)) (fun i=>(i:Int)) (fun _=>(List.range k).map fun k=>pns (bitS k) n) (pns (bitS k)) n (fun i hi kx1=> ?_) (fun kx1=> ?_) N (by omega)
    · have hc:=cnt_le (bitS k) i
      simp only[cnt] at hc
      simp only[Q65_B1,ilt_eq,Int.ofNat_lt,hi,decide_true,cond_true,ile_eq,show (0:Int)≤(i:Int) by omega,chk_true',bit_eq (show k<1000000000 by omega) (show i≤60 by omega),chk_of (fitB_in (n:=(pns (bitS k) i).length+1) (b:=8) (by omega) (by omega)),pns_succ,iadd_nat (show i<4611686018427387904 by omega)]
      cases h:k.testBit i<;>simp [bitS,h]
    · simp only[Q65_B1,Q65_K1,ilt_eq,Int.lt_irrefl,decide_false,cond_false,map_range_len,chk_of (fitB_in (n:=k+1) (b:=24) (by omega) (by omega)),iadd_nat (show k<4611686018427387904 by omega)]
      rw[List.range_succ,List.map_append,List.map_cons,List.map_nil]
  · have hok:sortOk ((List.range (2 ^ n)).map fun k=>pns (bitS k) n)=true:=by
      simp only[sortOk,Bool.and_eq_true,decide_eq_true_eq,List.all_eq_true,map_range_len]
      refine ⟨by omega,fun r hr=> ?_,setsL_nodup n⟩
      obtain ⟨k,_,rfl⟩:=setsL_mem.1 hr
      have hc:=cnt_le (bitS k) n
      simp only[cnt] at hc
      omega
    simp only[Q65_B2,Q65_K2,ilt_eq,Int.lt_irrefl,decide_false,cond_false,slices_SortFunc_int_int__impl_sets_1,hok,chk_true',Option.bind_some]
    rfl
def okL (L t:Nat) (x:Int):Bool:=inRg ((t:Int) - (L:Int)+1) t x
def omin:Option Int→Int→Int
  | none,r=>r
  | some a,r=>imin a r
def mnL (c:Cs) (L:Nat) (ps:List Int) (t:Nat):Nat→Option Int
  | 0=>none
  | j+1=>bif okL L t (gd ps j 0) then some (omin (mnL c L ps t j) (rateOf c (gd ps j 0).toNat t)) else mnL c L ps t j
def stL (c:Cs) (ps:List Int):Nat→Int
  | 0=>0
  | j+1=>stL c ps j+gd c.2.1 (gd ps j 0).toNat 0
def frL (c:Cs) (L:Nat) (ps:List Int):Nat→Option Int
  | 0=>some (stL c ps ps.length)
  | t+1=>match frL c L ps t with
    | none=>none
    | some s=>if 0<gd c.1 t 0 then (match mnL c L ps t ps.length with | none=>none | some r=>some (s+gd c.1 t 0*r)) else some s
def perP (n:Nat) (ps:List Int):Prop:=ps.length≤n∧∀j,j<ps.length→0≤gd ps j 0∧gd ps j 0<n
theorem perP_pns (S:Nat→Bool) (n:Nat):perP n (pns S n):=⟨cnt_le S n,fun _ hj=>pns_rg hj⟩
theorem mnL_is (c:Cs) (L:Nat) (ps:List Int) (t:Nat):∀m,(mnL c L ps t m=none∧∀j,j<m→okL L t (gd ps j 0)=false)∨(∃r,mnL c L ps t m=some r∧(∃j,j<m∧okL L t (gd ps j 0)=true∧r=rateOf c (gd ps j 0).toNat t)∧∀j,j<m→okL L t (gd ps j 0)=true→r≤rateOf c (gd ps j 0).toNat t)
  | 0=> .inl ⟨rfl,fun j hj=>by omega⟩
  | m+1=>by
    simp only[mnL]
    cases h:okL L t (gd ps m 0) with
    | false=>
      simp only[cond_false]
      rcases mnL_is c L ps t m with ⟨h1,h2⟩ | ⟨r,h1,⟨j,j1,j2,j3⟩,h3⟩
      · refine .inl ⟨h1,fun j hj=> ?_⟩
        by_cases e:j=m
        · subst e;exact h
        · exact h2 j (by omega)
      · refine .inr ⟨r,h1,⟨j,by omega,j2,j3⟩,fun q hq ho=> ?_⟩
        by_cases e:q=m
        · subst e;rw[h] at ho;cases ho
        · exact h3 q (by omega) ho
    | true=>
      simp only[cond_true]
      refine .inr ⟨_,rfl, ?_⟩
      rcases mnL_is c L ps t m with ⟨h1,h2⟩ | ⟨r,h1,⟨j,j1,j2,j3⟩,h3⟩
      · rw[h1]
        refine ⟨⟨m,by omega,h,rfl⟩,fun q hq ho=> ?_⟩
        by_cases e:q=m
        · subst e;exact Int.le_refl _
        · rw[h2 q (by omega)] at ho;cases ho
      · rw[h1]
        have hm:=imin_bd (x:=r) (y:=rateOf c (gd ps m 0).toNat t)
        refine ⟨?_,fun q hq ho=> ?_⟩
        · rcases hm.2.2 with e | e
          · exact ⟨j,by omega,j2,by simp only[omin];rw[e,j3]⟩
          · exact ⟨m,by omega,h,e⟩
        · simp only[omin]
          by_cases e:q=m
          · subst e;exact hm.2.1
          · have:=h3 q (by omega) ho;omega
theorem mnL_bd {c:Cs} (hc:CaseP c) {L t:Nat} {ps:List Int} (hp:perP c.1.length ps) (ht:t≤c.1.length) {m:Nat} (hm:m≤ps.length) {r:Int} (h:mnL c L ps t m=some r):0≤r∧r≤81:=by
  rcases mnL_is c L ps t m with ⟨h1,_⟩ | ⟨r',h1,⟨j,j1,j2,j3⟩,_⟩
  · rw[h1] at h;cases h
  · rw[h1] at h;cases h
    have:=hp.2 j (by omega)
    simp only[okL,inRg,Bool.and_eq_true,decide_eq_true_eq] at j2
    rw[j3]
    exact rate_bd hc (by omega) (by omega) ht
theorem stL_bd {c:Cs} (hc:CaseP c) {ps:List Int} (hp:perP c.1.length ps):∀j,j≤ps.length→0≤stL c ps j∧stL c ps j≤99*(j:Int)
  | 0,_=>by simp [stL]
  | j+1,hj=>by
    obtain ⟨h1,h2⟩:=stL_bd hc hp j (by omega)
    have h3:=hp.2 j (by omega)
    have h4:=hc.b1 (gd ps j 0).toNat (by rw[hc.l1];omega)
    simp only[stL];omega
theorem frL_bd {c:Cs} (hc:CaseP c) {L:Nat} {ps:List Int} (hp:perP c.1.length ps):∀t,t≤c.1.length→∀s,frL c L ps t=some s→0≤s∧s≤800+1620*(t:Int)
  | 0,_,s,h=>by
    simp only[frL,Option.some.injEq] at h
    subst h
    have:=stL_bd hc hp ps.length (Nat.le_refl _)
    have:=hp.1
    have:=hc.n
    omega
  | t+1,ht,s,h=>by
    simp only[frL] at h
    split at h
    · cases h
    · rename_i s0 hs0
      obtain ⟨h1,h2⟩:=frL_bd hc hp t (by omega) s0 hs0
      split at h
      · split at h
        · cases h
        · rename_i r hr
          cases h
          have hb:=mnL_bd hc hp (show t≤c.1.length by omega) (Nat.le_refl _) hr
          have hn:=hc.b0 t (by omega)
          have m1:=Int.mul_nonneg hn.1 hb.1
          have m2:=Int.mul_le_mul hn.2 hb.2 hb.1 (by omega)
          omega
      · cases h;omega
theorem frL_none {c:Cs} {L:Nat} {ps:List Int} {t:Nat} (h:frL c L ps t=none):∀m,t≤m→frL c L ps m=none:=by
  intro m
  induction m with
  | zero => intro hm; obtain rfl : t = 0 := by omega
            exact h
  | succ m ih=>
    intro hm
    by_cases e:t=m+1
    · rw[←e];exact h
    · simp only[frL,ih (by omega)]
theorem imin_ge {a r:Int} (h:r≤a):imin a r=r:=by unfold imin;split<;>omega
theorem impl_fresh_in {N:Nat} {c:Cs} (hc:CaseP c) {L:Nat} (hL:L≤8) {ps:List Int} (hp:perP c.1.length ps) {t:Nat} (ht:t<c.1.length) (sum:Int) (hN:4194304≤N) {kx1:Int→List Int→Int→List Int→Int→Int→Cs→Option ((Int×Bool)×Unit)}:
    Q16_L1 N N kx1 (L:Int) ps sum (t:Nat) (gd c.1 t 0) 1099511627776 c.1 (c.1.length:Int) (t:Nat) ps (ps.length:Int) 0 c=Q16_K1 N kx1 (L:Int) ps sum (gd c.1 t 0) ((mnL c L ps t ps.length).getD 1099511627776) c.1 (c.1.length:Int) (t:Nat) c:=by
  have hn:=hc.n
  have hpl:=hp.1
  refine Q16_L1_run N kx1 (fun _=>(L:Int)) (fun _=>ps) (fun _=>sum) (fun _=>(t:Int)) (fun _=>gd c.1 t 0) (fun j=>(mnL c L ps t j).getD 1099511627776) (fun _=>c.1) (fun _=>(c.1.length:Int)) (fun _=>(t:Int)) (fun _=>ps) (fun _=>(ps.length:Int)) (fun j=>(j:Int)) (fun _=>c) ps.length (fun j hj kx=> ?_) (fun kx=> ?_) N (by omega)
  · have hx:=hp.2 j hj
    have e1:iadd .i64 (isub .i64 (t:Int) (L:Int)) 1=(t:Int) - (L:Int)+1:=by rw[isub_in (by omega) (by omega),iadd_in (by omega) (by omega)]
    simp only[Q16_B1,ilt_eq,Int.ofNat_lt,hj,decide_true,cond_true,inB_true hj,chk_true',Int.toNat_natCast,e1,impl_within_eq,Option.bind_some,iadd_nat (show j<4611686018427387904 by omega),mnL]
    cases h:okL L t (gd ps j 0) with
    | false=>rw[show inRg ((t:Int) - (L:Int)+1) t (gd ps j 0)=false from h];rfl
    | true=>
      rw[show inRg ((t:Int) - (L:Int)+1) t (gd ps j 0)=true from h]
      simp only[okL,inRg,Bool.and_eq_true,decide_eq_true_eq] at h
      have hr:Q21 N c (gd ps j 0) (t:Int)=some (rateOf c (gd ps j 0).toNat t,()):=by
        have:=impl_Case_rate_eq (N:=N) hc (i:=(gd ps j 0).toNat) (t:=t) (by omega) (by omega) (by omega) hN
        rwa [show (((gd ps j 0).toNat:Nat):Int)=gd ps j 0 by omega] at this
      simp only[cond_true,hr,Option.bind_some]
      have hb:=rate_bd hc (i:=(gd ps j 0).toNat) (t:=t) (by omega) (by omega) (by omega)
      cases hm:mnL c L ps t j with
      | none=>simp only[Option.getD_none,omin,Option.getD_some,imin_ge (show rateOf c (gd ps j 0).toNat t≤1099511627776 by omega)]
      | some a=>simp only[omin,Option.getD_some]
  · simp only[Q16_B1,ilt_eq,Int.lt_irrefl,decide_false,cond_false]
theorem frL_cases (c:Cs) (L:Nat) (ps:List Int):∀n,(∃s,frL c L ps n=some s)∨(∃j,j<n∧(∃s,frL c L ps j=some s)∧frL c L ps (j+1)=none∧frL c L ps n=none)
  | 0=> .inl ⟨_,rfl⟩
  | n+1=>by
    rcases frL_cases c L ps n with ⟨s,h⟩ | ⟨j,j1,j2,j3,j4⟩
    · cases h2:frL c L ps (n+1) with
      | some s=>exact .inl ⟨s,rfl⟩
      | none=>exact .inr ⟨n,by omega,⟨s,h⟩,h2,rfl⟩
    · exact .inr ⟨j,by omega,j2,j3,frL_none j4 _ (by omega)⟩
def frR (o:Option Int):Int×Bool:=match o with | some s=>(s,true) | none=>(0,false)
theorem impl_Case_fresh_eq {N:Nat} {c:Cs} (hc:CaseP c) {L:Nat} (hL:L≤8) {ps:List Int} (hp:perP c.1.length ps) (hN:4194304≤N):Q16 N c (L:Int) ps=some (frR (frL c L ps c.1.length),()):=by
  have hn:=hc.n
  have hpl:=hp.1
  have step:∀t s,t<c.1.length→frL c L ps t=some s→∀kx1,Q16_B2 N kx1 (L:Int) ps s c.1 (c.1.length:Int) (t:Nat) c=match frL c L ps (t+1) with | some s'=>kx1 (L:Int) ps s' c.1 (c.1.length:Int) ((t+1:Nat):Int) c | none=>some ((0,false),()):=fun t s ht hs kx1=>by
    have hb:=frL_bd hc hp t (by omega) s hs
    simp only[Q16_B2,ilt_eq,len_eq,Int.ofNat_lt,ht,decide_true,cond_true,inB_true ht,chk_true',Int.toNat_natCast,impl_fresh_in hc hL hp ht s hN,Q16_K1,frL,hs,iadd_nat (show t<4611686018427387904 by omega),ieq_eq]
    by_cases q:0<gd c.1 t 0
    · simp only[q,decide_true,cond_true,if_true]
      cases hm:mnL c L ps t ps.length with
      | none=>simp only[Option.getD_none,decide_true,cond_true]
      | some r=>
        have hr:=mnL_bd hc hp (show t≤c.1.length by omega) (Nat.le_refl _) hm
        have hnn:=hc.b0 t ht
        have m1:=Int.mul_nonneg hnn.1 hr.1
        have m2:=Int.mul_le_mul hnn.2 hr.2 hr.1 (by omega)
        simp only[Option.getD_some,show ¬r=1099511627776 by omega,decide_false,cond_false,imul_in (show -9223372036854775808≤gd c.1 t 0*r by omega) (by omega)]
        rw[iadd_in (by omega) (by omega)]
    · simp only[q,decide_false,cond_false,if_false]
  have h3:Q16 N c (L:Int) ps=Q16_K3 N (L:Int) ps (stL c ps ps.length) c:=by
    simp only[Q16,len_eq]
    refine Q16_L3_run N (fun _=>(L:Int)) (fun _=>ps) (fun j=>stL c ps j) (fun _=>ps) (fun _=>(ps.length:Int)) (fun j=>(j:Int)) (fun _=>c) ps.length (fun j hj kx=> ?_) (fun kx=> ?_) N (by omega)
    · have hx:=hp.2 j hj
      have hl1:=hc.l1
      have hb:=stL_bd hc hp (j+1) hj
      simp only[stL] at hb
      simp only[Q16_B3,ilt_eq,Int.ofNat_lt,hj,decide_true,cond_true,inB_true hj,chk_true',Int.toNat_natCast,show inB (gd ps j 0) c.2.1.length=true from inB_in hx.1 (by rw[hl1];exact hx.2),iadd_nat (show j<4611686018427387904 by omega),stL]
      rw[iadd_in (by omega) (by omega)]
    · simp only[Q16_B3,ilt_eq,Int.lt_irrefl,decide_false,cond_false]
  rw[h3]
  simp only[Q16_K3,len_eq]
  rcases frL_cases c L ps c.1.length with ⟨s,h⟩ | ⟨j,j1,⟨s,j2⟩,j3,j4⟩
  · have hall:∀t,t≤c.1.length→∃s,frL c L ps t=some s:=fun t ht=>by
      cases h2:frL c L ps t with
      | some s=>exact ⟨s,rfl⟩
      | none=>rw[frL_none h2 _ ht] at h;cases h
    have key:=Q16_L2_run N (fun _=>(L:Int)) (fun _=>ps) (fun t=>(frL c L ps t).getD 0) (fun _=>c.1) (fun _=>(c.1.length:Int)) (fun t=>(t:Int)) (fun _=>c) c.1.length (res_:=some (frR (frL c L ps c.1.length),())) (fun t ht kx=>by
      obtain ⟨s0,h0⟩:=hall t (by omega)
      obtain ⟨s1,h1⟩:=hall (t+1) (by omega)
      rw[h0,h1,Option.getD_some,Option.getD_some,step t s0 ht h0 kx,h1]) (fun kx=>by
      simp only[Q16_B2,Q16_K2,ilt_eq,len_eq,Int.lt_irrefl,decide_false,cond_false,h,Option.getD_some,frR]) N (by omega)
    exact key
  · have hall:∀t,t≤j→∃s,frL c L ps t=some s:=fun t ht=>by
      cases h2:frL c L ps t with
      | some s=>exact ⟨s,rfl⟩
      | none=>rw[frL_none h2 _ ht] at j2;cases j2
    have key:=Q16_L2_run N (fun _=>(L:Int)) (fun _=>ps) (fun t=>(frL c L ps t).getD 0) (fun _=>c.1) (fun _=>(c.1.length:Int)) (fun t=>(t:Int)) (fun _=>c) j (res_:=some (frR (frL c L ps c.1.length),())) (fun t ht kx=>by
      obtain ⟨s0,h0⟩:=hall t (by omega)
      obtain ⟨s1,h1⟩:=hall (t+1) (by omega)
      rw[h0,h1,Option.getD_some,Option.getD_some,step t s0 (by omega) h0 kx,h1]) (fun kx=>by
      rw[j2,Option.getD_some,step j s j1 j2 kx,j3,j4];rfl) N (by omega)
    exact key
def frO (c:Cs) (L k:Nat):Option Int:=frL c L (pns (bitS k) c.1.length) c.1.length
noncomputable def fbSt (c:Cs) (L:Nat):Nat→List Int×Int
  | 0=>([], -1)
  | k+1=>match frO c L k with
    | none=>fbSt c L k
    | some v=>bif tk (fbSt c L k).2 v (befB (pns (bitS k) c.1.length) (fbSt c L k).1) then (pns (bitS k) c.1.length,v) else fbSt c L k
def fiSt (c:Cs) (L:Nat) (Z:List (List Int)):Nat→List Int×Int
  | 0=>([],1099511627776)
  | i+1=>match frL c L (gd Z i []) c.1.length with
    | none=>fiSt c L Z i
    | some v=>if v<(fiSt c L Z i).2 then (gd Z i [],v) else fiSt c L Z i
theorem frO_bd {c:Cs} (hc:CaseP c) {L k:Nat} {v:Int} (h:frO c L k=some v):0≤v∧v≤13760:=by
  have:=frL_bd hc (perP_pns (bitS k) c.1.length) c.1.length (Nat.le_refl _) v h
  have:=hc.n
  omega
theorem impl_Case_bestFresh_eq {N:Nat} {c:Cs} (hc:CaseP c) {L:Nat} (hL:L≤8) (hN:4194304≤N):Q10 N c (L:Int)=some (fiSt c L (sortL c.1.length) (2 ^ c.1.length),()):=by
  have hn:=hc.n
  have hp:=pow_le8 hn
  have hl:=sortL_len c.1.length
  simp only[Q10,len_eq,impl_sets_eq hn hN,Option.bind_some]
  have step:∀i,i<2 ^ c.1.length→Q16 N c (L:Int) (gd (sortL c.1.length) i [])=some (frR (frL c L (gd (sortL c.1.length) i []) c.1.length),()):=fun i hi=>by
    obtain ⟨k,_,hk⟩:=sortL_gd (n:=c.1.length) (i:=i) (by omega)
    rw[hk]
    exact impl_Case_fresh_eq hc hL (perP_pns _ _) hN
  rw[hl]
  have key:=Q10_L1_run N (fun _=>(L:Int)) (fun i=>(fiSt c L (sortL c.1.length) i).1) (fun i=>(fiSt c L (sortL c.1.length) i).2) (fun _=>((2 ^ c.1.length:Nat):Int)) (fun i=>(i:Int)) (fun _=>c) (fun _=>sortL c.1.length) (2 ^ c.1.length) (res_:=some (fiSt c L (sortL c.1.length) (2 ^ c.1.length),())) (fun i hi kx=> ?_) (fun kx=> ?_) N (by omega)
  · exact key
  · simp only[Q10_B1,Q10_K1,ilt_eq,Int.ofNat_lt,hi,decide_true,cond_true,inB_true (show i<(sortL c.1.length).length by omega),chk_true',Int.toNat_natCast,step i hi,Option.bind_some,iadd_nat (show i<4611686018427387904 by omega),fiSt]
    cases hf:frL c L (gd (sortL c.1.length) i []) c.1.length with
    | none=>simp only[frR,cond_false]
    | some v=>
      simp only[frR,cond_true]
      by_cases q:v<(fiSt c L (sortL c.1.length) i).2
      · simp only[q,decide_true,cond_true,if_true]
      · simp only[q,decide_false,cond_false,if_false]
  · simp only[Q10_B1,Q10_K2,ilt_eq,Int.lt_irrefl,decide_false,cond_false]
theorem befB_irr (x:List Int):befB x x=false:=by rw[bef_setC,setC_refl];rfl
theorem befB_eq {x y:List Int} (h1:befB x y=false) (h2:befB y x=false):x=y:=by
  rw[bef_setC] at h1 h2
  simp only[decide_eq_false_iff_not] at h1 h2
  have:=setC_neg x y
  exact setC_zero (by omega)
def isBest (c:Cs) (L:Nat) (b:List Int×Int):Prop:=∃k,k<2 ^ c.1.length∧b.1=pns (bitS k) c.1.length∧frO c L k=some b.2∧∀j,j<2 ^ c.1.length→∀u,frO c L j=some u→b.2<u∨(b.2=u∧befB (pns (bitS j) c.1.length) b.1=false)
theorem isBest_one {c:Cs} {L:Nat} {a b:List Int×Int} (ha:isBest c L a) (hb:isBest c L b):a=b:=by
  obtain ⟨k,k1,k2,k3,k4⟩:=ha
  obtain ⟨j,j1,j2,j3,j4⟩:=hb
  have h1:=k4 j j1 _ j3
  have h2:=j4 k k1 _ k3
  rw[←j2] at h1
  rw[←k2] at h2
  have e:a.2=b.2:=by omega
  have e2:a.1=b.1:=by
    rcases h1 with h1 | ⟨_,h1⟩
    · omega
    · rcases h2 with h2 | ⟨_,h2⟩
      · omega
      · exact befB_eq h2 h1
  exact Prod.ext e2 e
theorem befB_ntrans {x y z:List Int} (h1:befB x y=false) (h2:befB y z=false):befB x z=false:=by
  rw[bef_setC] at h1 h2 ⊢
  simp only[decide_eq_false_iff_not] at h1 h2 ⊢
  exact setC_ntrans h1 h2
theorem fbSt_is {c:Cs} (hc:CaseP c) (L:Nat):∀k,(fbSt c L k=([], -1)∧∀j,j<k→frO c L j=none)∨(∃q,q<k∧(fbSt c L k).1=pns (bitS q) c.1.length∧frO c L q=some (fbSt c L k).2∧∀j,j<k→∀u,frO c L j=some u→(fbSt c L k).2<u∨((fbSt c L k).2=u∧befB (pns (bitS j) c.1.length) (fbSt c L k).1=false))
  | 0=> .inl ⟨rfl,fun j hj=>by omega⟩
  | k+1=>by
    have ih:=fbSt_is hc L k
    cases hf:frO c L k with
    | none=>
      have e:fbSt c L (k+1)=fbSt c L k:=by simp only[fbSt,hf]
      rw[e]
      rcases ih with ⟨h1,h2⟩ | ⟨q,q1,q2,q3,q4⟩
      · refine .inl ⟨h1,fun j hj=> ?_⟩
        by_cases ej:j=k
        · subst ej;exact hf
        · exact h2 j (by omega)
      · refine .inr ⟨q,by omega,q2,q3,fun j hj u hu=> ?_⟩
        by_cases ej:j=k
        · subst ej;rw[hf] at hu;cases hu
        · exact q4 j (by omega) u hu
    | some v=>
      have hv:=frO_bd hc hf
      cases ht:tk (fbSt c L k).2 v (befB (pns (bitS k) c.1.length) (fbSt c L k).1) with
      | true=>
        have e:fbSt c L (k+1)=(pns (bitS k) c.1.length,v):=by simp only[fbSt,hf,ht,cond_true]
        rw[e]
        refine .inr ⟨k,by omega,rfl,hf,fun j hj u hu=> ?_⟩
        by_cases ej:j=k
        · subst ej;rw[hf] at hu;cases hu;exact .inr ⟨rfl,befB_irr _⟩
        · rcases ih with ⟨h1,h2⟩ | ⟨q,q1,q2,q3,q4⟩
          · rw[h2 j (by omega)] at hu;cases hu
          · have hq:=frO_bd hc q3
            simp only[tk,Bool.or_eq_true,Bool.and_eq_true,decide_eq_true_eq] at ht
            have:=q4 j (by omega) u hu
            rcases ht with ht | ht | ⟨ht,hb⟩
            · omega
            · left;show v<u;omega
            · rcases this with h | ⟨h,h3⟩
              · left;show v<u;omega
              · right
                refine ⟨by show v=u;omega, ?_⟩
                show befB (pns (bitS j) c.1.length) (pns (bitS k) c.1.length)=false
                refine befB_ntrans h3 ?_
                rw[bef_setC] at hb ⊢
                simp only[decide_eq_true_eq,decide_eq_false_iff_not] at hb ⊢
                have:=setC_neg (pns (bitS k) c.1.length) (fbSt c L k).1
                omega
      | false=>
        have e:fbSt c L (k+1)=fbSt c L k:=by simp only[fbSt,hf,ht,cond_false]
        rw[e]
        simp only[tk,Bool.or_eq_false_iff,decide_eq_false_iff_not] at ht
        obtain ⟨t1,t2,t3⟩:=ht
        rcases ih with ⟨h1,h2⟩ | ⟨q,q1,q2,q3,q4⟩
        · rw[h1] at t1;exact absurd (show (-1:Int)<0 by omega) t1
        · refine .inr ⟨q,by omega,q2,q3,fun j hj u hu=> ?_⟩
          by_cases ej:j=k
          · subst ej
            rw[hf] at hu;cases hu
            by_cases q5:v=(fbSt c L j).2
            · right
              refine ⟨q5.symm, ?_⟩
              simpa [q5] using t3
            · left;omega
          · exact q4 j (by omega) u hu
theorem fiSt_is {c:Cs} (hc:CaseP c) (L:Nat) {Z:List (List Int)} (hZ:∀i,i<Z.length→perP c.1.length (gd Z i [])):∀k,k≤Z.length→(fiSt c L Z k=([],1099511627776)∧∀j,j<k→frL c L (gd Z j []) c.1.length=none)∨(∃q,q<k∧(fiSt c L Z k).1=gd Z q []∧frL c L (gd Z q []) c.1.length=some (fiSt c L Z k).2∧∀j,j<k→∀u,frL c L (gd Z j []) c.1.length=some u→(fiSt c L Z k).2<u∨((fiSt c L Z k).2=u∧q≤j))
  | 0,_=> .inl ⟨rfl,fun j hj=>by omega⟩
  | k+1,hk=>by
    have hn:=hc.n
    have ih:=fiSt_is hc L hZ k (by omega)
    cases hf:frL c L (gd Z k []) c.1.length with
    | none=>
      have e:fiSt c L Z (k+1)=fiSt c L Z k:=by simp only[fiSt,hf]
      rw[e]
      rcases ih with ⟨h1,h2⟩ | ⟨q,q1,q2,q3,q4⟩
      · refine .inl ⟨h1,fun j hj=> ?_⟩
        by_cases ej:j=k
        · subst ej;exact hf
        · exact h2 j (by omega)
      · refine .inr ⟨q,by omega,q2,q3,fun j hj u hu=> ?_⟩
        by_cases ej:j=k
        · subst ej;rw[hf] at hu;cases hu
        · exact q4 j (by omega) u hu
    | some v=>
      have hv:=frL_bd hc (hZ k (by omega)) c.1.length (Nat.le_refl _) v hf
      by_cases ht:v<(fiSt c L Z k).2
      · have e:fiSt c L Z (k+1)=(gd Z k [],v):=by simp only[fiSt,hf,ht,if_true]
        rw[e]
        refine .inr ⟨k,by omega,rfl,hf,fun j hj u hu=> ?_⟩
        by_cases ej:j=k
        · subst ej;rw[hf] at hu;cases hu;exact .inr ⟨rfl,Nat.le_refl _⟩
        · rcases ih with ⟨h1,h2⟩ | ⟨q,q1,q2,q3,q4⟩
          · rw[h2 j (by omega)] at hu;cases hu
          · have:=q4 j (by omega) u hu
            left;show v<u;omega
      · have e:fiSt c L Z (k+1)=fiSt c L Z k:=by simp only[fiSt,hf,ht,if_false]
        rw[e]
        rcases ih with ⟨h1,h2⟩ | ⟨q,q1,q2,q3,q4⟩
        · rw[h1] at ht;exact absurd (show v<1099511627776 by omega) ht
        · refine .inr ⟨q,by omega,q2,q3,fun j hj u hu=> ?_⟩
          by_cases ej:j=k
          · subst ej
            rw[hf] at hu;cases hu
            by_cases q5:v=(fiSt c L Z j).2
            · exact .inr ⟨q5.symm,by omega⟩
            · left;omega
          · exact q4 j (by omega) u hu
theorem mnL_some {c:Cs} {L:Nat} {S:Nat→Bool} {t i:Nat} (hi:i<c.1.length) (hS:S i=true) (hit:i≤t) (hL:t<i+L):∃r,mnL c L (pns S c.1.length) t (pns S c.1.length).length=some r∧r≤rateOf c i t:=by
  obtain ⟨h1,h2⟩:=pns_at hi hS
  have hok:okL L t (gd (pns S c.1.length) (cnt S i) 0)=true:=by
    rw[h2];simp only[okL,inRg,Bool.and_eq_true,decide_eq_true_eq];omega
  rcases mnL_is c L (pns S c.1.length) t (pns S c.1.length).length with ⟨_,h3⟩ | ⟨r,h3,_,h4⟩
  · rw[h3 _ h1] at hok;cases hok
  · refine ⟨r,h3, ?_⟩
    have:=h4 _ h1 hok
    rwa [h2,Int.toNat_natCast] at this
theorem frL_some {c:Cs} {L:Nat} {ps:List Int} (h:∀t,t<c.1.length→0<gd c.1 t 0→∃r,mnL c L ps t ps.length=some r):∀t,t≤c.1.length→∃s,frL c L ps t=some s
  | 0,_=>⟨_,rfl⟩
  | t+1,ht=>by
    obtain ⟨s,hs⟩:=frL_some h t (by omega)
    simp only[frL,hs]
    by_cases q:0<gd c.1 t 0
    · obtain ⟨r,hr⟩:=h t (by omega) q
      simp only[q,if_true,hr];exact ⟨_,rfl⟩
    · simp only[q,if_false];exact ⟨_,rfl⟩
theorem frO_all {c:Cs} {L:Nat} (hL:1≤L):∃k v,k<2 ^ c.1.length∧frO c L k=some v:=by
  obtain ⟨k,k1,k2⟩:=code_of (fun _=>true) c.1.length
  obtain ⟨v,hv⟩:=frL_some (c:=c) (L:=L) (ps:=pns (bitS k) c.1.length) (fun t ht _=>by
    obtain ⟨r,hr,_⟩:=mnL_some (c:=c) (L:=L) (S:=bitS k) (t:=t) ht (k2 t ht) (Nat.le_refl _) (by omega)
    exact ⟨r,hr⟩) c.1.length (Nat.le_refl _)
  exact ⟨k,v,k1,hv⟩
theorem fb_best {c:Cs} (hc:CaseP c) {L:Nat} (hL:1≤L):isBest c L (fbSt c L (2 ^ c.1.length)):=by
  obtain ⟨k,v,k1,k2⟩:=frO_all (c:=c) hL
  rcases fbSt_is hc L (2 ^ c.1.length) with ⟨_,h⟩ | ⟨q,q1,q2,q3,q4⟩
  · rw[h k k1] at k2;cases k2
  · exact ⟨q,q1,q2,q3,q4⟩
theorem fi_best {c:Cs} (hc:CaseP c) {L:Nat} (hL:1≤L):isBest c L (fiSt c L (sortL c.1.length) (2 ^ c.1.length)):=by
  have hl:=sortL_len c.1.length
  have hZ:∀i,i<(sortL c.1.length).length→perP c.1.length (gd (sortL c.1.length) i []):=fun i hi=>by
    obtain ⟨k,_,hk⟩:=sortL_gd hi
    rw[hk];exact perP_pns _ _
  have hat:∀k,k<2 ^ c.1.length→∃i,i<(sortL c.1.length).length∧gd (sortL c.1.length) i []=pns (bitS k) c.1.length:=fun k hk=>by
    have:pns (bitS k) c.1.length∈sortL c.1.length:=sortL_mem.2 ⟨k,hk,rfl⟩
    obtain ⟨i,hi,e⟩:=List.getElem_of_mem this
    exact ⟨i,hi,by simp only[gd,List.getD_eq_getElem?_getD,List.getElem?_eq_getElem hi,Option.getD_some,e]⟩
  rcases fiSt_is hc L hZ (2 ^ c.1.length) (by omega) with ⟨_,h⟩ | ⟨q,q1,q2,q3,q4⟩
  · obtain ⟨k,v,k1,k2⟩:=frO_all (c:=c) hL
    obtain ⟨i,hi,e⟩:=hat k k1
    have:=h i (by omega)
    rw[e] at this
    have k2':frL c L (pns (bitS k) c.1.length) c.1.length=some v:=k2
    rw[this] at k2';cases k2'
  · obtain ⟨k,k1,hk⟩:=sortL_gd (n:=c.1.length) (i:=q) (by omega)
    refine ⟨k,k1,by rw[q2,hk],by show frL c L (pns (bitS k) c.1.length) c.1.length=_;rw[←hk];exact q3,fun j hj u hu=> ?_⟩
    obtain ⟨i,hi,e⟩:=hat j hj
    have hu':frL c L (gd (sortL c.1.length) i []) c.1.length=some u:=by rw[e];exact hu
    rcases q4 i (by omega) u hu' with h | ⟨h1,h2⟩
    · exact .inl h
    · refine .inr ⟨h1, ?_⟩
      rw[q2,←e]
      by_cases eq:q=i
      · subst eq;exact befB_irr _
      · exact sortL_up (by omega) hi
theorem fi_fb {c:Cs} (hc:CaseP c) {L:Nat} (hL:1≤L):fiSt c L (sortL c.1.length) (2 ^ c.1.length)=fbSt c L (2 ^ c.1.length):=isBest_one (fi_best hc hL) (fb_best hc hL)
theorem rsum_one {f g:Nat→Int}:∀ {n:Nat},(∀p,p<n→f p≤g p)→∀i,i<n→g i - f i≤rsum g n - rsum f n
  | 0,_,i,hi=>by omega
  | n+1,h,i,hi=>by
    simp only[rsum]
    have h1:=h n (by omega)
    by_cases e:i=n
    · subst e
      have:=rsum_le (f:=f) (g:=g) (n:=i) (fun p hp=>h p (by omega))
      omega
    · have:=rsum_one (n:=n) (fun p hp=>h p (by omega)) i (by omega)
      omega
noncomputable def fbV (c:Cs) (L:Nat):Int:=(fbSt c L (2 ^ c.1.length)).2
theorem fbV_bd {c:Cs} (hc:CaseP c) {L:Nat} (hL:1≤L):0≤fbV c L∧fbV c L≤13760:=by
  obtain ⟨k,_,_,h,_⟩:=fb_best hc hL
  exact frO_bd hc h
noncomputable def bfOf (c:Cs) (life:Int):List Int×Int×Bool:=bif caseB c && inRg 1 8 life then ((fbSt c life.toNat (2 ^ c.1.length)).1,(fbV c life.toNat,true)) else ([],(0,false))
theorem life_nat {life:Int} (h:inRg 1 8 life=true):((life.toNat:Nat):Int)=life∧1≤life.toNat∧life.toNat≤8:=by
  simp only[inRg,Bool.and_eq_true,decide_eq_true_eq] at h;omega
theorem impl_BestFresh_eq {N:Nat} {c:Cs} (hs:SmC c) (life:Int) (hN:4194304≤N):Q6 N c life=some (bfOf c life,()):=by
  simp only[Q6,impl_IsCase_eq hs hN,Option.bind_some,bif_not,bfOf,Q60,impl_within_eq]
  cases h:caseB c with
  | false=>rfl
  | true=>
    have hc:=caseB_iff.1 h
    cases h2:inRg 1 8 life with
    | false=>rfl
    | true=>
      obtain ⟨e,l1,l2⟩:=life_nat h2
      have:=impl_Case_bestFresh_eq (N:=N) hc l2 hN
      rw[e,fi_fb hc l1] at this
      simp only[cond_true,Bool.true_and,this,Option.bind_some,fbV]
theorem CaseP.at {c:Cs} (hc:CaseP c) {t:Nat} (ht:t<c.1.length):(0≤gd c.1 t 0∧gd c.1 t 0≤20)∧(0≤gd c.2.1 t 0∧gd c.2.1 t 0≤99)∧(0≤gd c.2.2.1 t 0∧gd c.2.2.1 t 0≤9)∧(0≤gd c.2.2.2 t 0∧gd c.2.2.2 t 0≤9):=by
  have l1:=hc.l1;have l2:=hc.l2;have l3:=hc.l3
  exact ⟨hc.b0 t ht,hc.b1 t (by omega),hc.b2 t (by omega),hc.b3 t (by omega)⟩
theorem index_cons (c b:UInt8) (l:List UInt8):Lib.index (b::l) [c]=if b=c then 0 else if Lib.index l [c]= -1 then -1 else Lib.index l [c]+1:=by
  rw[Lib.index]
  by_cases h:b=c
  · subst h;simp [List.isPrefixOf]
  · have hp:([c]:List UInt8).isPrefixOf (b::l)=false:=by simp [List.isPrefixOf,Ne.symm h]
    rw[hp,if_neg h]
    simp
theorem spl_miss (c:UInt8):∀(l a:List UInt8),Lib.index l [c]= -1→spl c a l=[a++l]
  | [],a,_=>by simp [spl]
  | b::l,a,h=>by
    rw[index_cons] at h
    by_cases hb:b=c
    · rw[if_pos hb] at h;omega
    · rw[if_neg hb] at h
      have hge:=Lib.index_ge l [c]
      by_cases h2:Lib.index l [c]= -1
      · rw[spl,if_neg hb,spl_miss c l _ h2];simp
      · rw[if_neg h2] at h;omega
theorem spl_hit (c:UInt8):∀(l a:List UInt8) (j:Nat),Lib.index l [c]=(j:Nat)→spl c a l=(a++l.take j)::spl c [] (l.drop (j+1))
  | [],a,j,h=>by simp [Lib.index] at h
  | b::l,a,j,h=>by
    rw[index_cons] at h
    by_cases hb:b=c
    · rw[if_pos hb] at h
      obtain rfl:j=0:=by omega
      rw[spl,if_pos hb];simp
    · rw[if_neg hb] at h
      have hge:=Lib.index_ge l [c]
      by_cases h2:Lib.index l [c]= -1
      · rw[if_pos h2] at h;omega
      · rw[if_neg h2] at h
        obtain ⟨i,rfl⟩:∃i,j=i+1:=⟨j - 1,by omega⟩
        rw[spl,if_neg hb,spl_hit c l _ i (by omega)];simp
theorem splitK_spl (c:UInt8):∀(k:Nat) (l:List UInt8),Lib.count l [c]=k→Lib.splitK [c] 0 k l=spl c [] l
  | 0,l,h=>by
    have hge:=Lib.index_ge l [c]
    by_cases h2:Lib.index l [c]= -1
    · rw[spl_miss c l [] h2];rfl
    · have:=Lib.count_hit (s:=l) (sub:=[c]) (i:=(Lib.index l [c]).toNat) (by simp) (by omega)
      omega
  | k+1,l,h=>by
    have hge:=Lib.index_ge l [c]
    by_cases h2:Lib.index l [c]= -1
    · rw[Lib.count_miss h2] at h;omega
    · obtain ⟨i,hi⟩:∃i:Nat,Lib.index l [c]=i:=⟨(Lib.index l [c]).toNat,by omega⟩
      have h3:=Lib.count_hit (s:=l) (sub:=[c]) (i:=i) (by simp) hi
      rw[Lib.splitK,if_neg (by simpa using h2),hi,spl_hit c l [] i hi,Int.toNat_natCast,Nat.add_zero,List.nil_append,List.length_singleton,splitK_spl c k _ (by simp at h3;omega)]
theorem strings_Split_eq {N:Nat} {l:List UInt8} {c:UInt8} (h:l.length<4294967281):strings_Split N (txt l) (txt [c])=some ((spl c [] l).map txt,()):=by
  have h1:(decide ((txt l).size<4294967281) && decide (1≤(txt [c]).size))=true:=by
    simp only[Bool.and_eq_true,decide_eq_true_eq]
    exact ⟨h,Nat.le_refl 1⟩
  have h2:(Lib.splitB (txt [c]) 0 (Lib.countB (txt l) (txt [c])) (txt l)).map (·.data.toList)=spl c [] l:=by
    rw[Lib.splitB_data]
    exact splitK_spl c _ l rfl
  have h3:∀xs:List ByteArray,(xs.map (·.data.toList)).map txt=xs:=fun xs=>by
    rw[List.map_map]
    conv=>rhs;rw[←List.map_id xs]
    exact List.map_congr_left fun x _=>txt_ext rfl
  simp only[strings_Split,h1,chk_true']
  rw[←h3 (Lib.splitB (txt [c]) 0 (Lib.countB (txt l) (txt [c])) (txt l)),h2]
theorem decFrom_snoc (b:UInt8):∀(l:List UInt8) (acc n d:Nat),Lib.decFrom acc l=some n→Lib.digitVal b=some d→Lib.decFrom acc (l++[b])=some (n*10+d)
  | [],acc,n,d,h,hd=>by
    simp only[Lib.decFrom,Option.some.injEq] at h
    subst h
    simp [Lib.decFrom,hd]
  | a::l,acc,n,d,h,hd=>by
    simp only[List.cons_append,Lib.decFrom] at h ⊢
    cases ha:Lib.digitVal a with
    | none=>rw[ha] at h;cases h
    | some e=>rw[ha] at h;exact decFrom_snoc b l _ n d h hd
theorem digit_of {d:Nat} (h:d<10):Lib.digitVal (UInt8.ofNat (48+d))=some d:=by
  have e:(UInt8.ofNat (48+d)).toNat=48+d:=by rw[UInt8.toNat_ofNat'];omega
  unfold Lib.digitVal
  rw[e,if_pos (by omega)]
  congr 1;omega
theorem decFrom_dec (u:Nat):Lib.decFrom 0 (Lib.decDigits u)=some u:=by
  induction u using Nat.strongRecOn with
  | _ u ih=>
    rw[Lib.decDigits]
    by_cases hu:u<10
    · rw[dif_pos hu]
      simp only[Lib.decFrom,digit_of hu]
      congr 1;omega
    · rw[dif_neg hu]
      rw[decFrom_snoc _ _ _ _ _ (ih (u / 10) (by omega)) (digit_of (Nat.mod_lt _ (by omega)))]
      congr 1;omega
theorem atoi_num {k:Int} (h0:0≤k):Lib.atoi (numT k)=some k:=by
  obtain ⟨u,rfl⟩:∃u:Nat,k=(u:Int):=⟨k.toNat,by omega⟩
  have hm:=numT_mem (k:=(u:Int)) h0
  have hd:=decFrom_dec u
  rw[numT_nat] at hm ⊢
  cases hl:Lib.decDigits u with
  | nil=>rw[Lib.decDigits] at hl;split at hl<;>simp at hl
  | cons b r=>
    rw[hl] at hm hd
    have hb:=hm b (by simp)
    have n1:(b==45)=false:=by simp;rintro rfl;simp at hb
    have n2:(b==43)=false:=by simp;rintro rfl;simp at hb
    simp only[Lib.atoi,n1,n2,Bool.false_eq_true,if_false,Lib.decNat,List.isEmpty_cons,hd,Option.map_some]
def atV (s:ByteArray):Int:=(Lib.atoi s.data.toList).getD 0
def piB (s:ByteArray):Bool:=decide (s.size≤7) && ((Lib.atoi s.data.toList).isSome && (inRg (-999999) 999999 (atV s) && decide (txt (numT (atV s))=s)))
theorem impl_ParseInt_eq (N:Nat) (s:ByteArray):Q44 N s=some (bif piB s then (atV s,true) else (0,false),()):=by
  simp only[Q44,ilt_eq,slen,piB]
  by_cases h:s.size≤7
  · simp only[show ¬(7:Int)<(s.size:Int) by omega,decide_false,cond_false,strconv_Atoi,decide_eq_true (show s.size≤18 by omega),chk_true',Option.bind_some,bif_not,decide_eq_true h,Bool.true_and]
    cases h1:(Lib.atoi s.data.toList).isSome with
    | false=>rfl
    | true=>
      simp only[cond_true,impl_within_eq,Option.bind_some,Bool.true_and]
      rw[show (Lib.atoi s.data.toList).getD 0=atV s from rfl]
      cases h2:inRg (-999999) 999999 (atV s) with
      | false=>rfl
      | true=>
        have h3:=h2
        simp only[inRg,Bool.and_eq_true,decide_eq_true_eq] at h3
        simp only[cond_true,strconv_Itoa_eq (n:=atV s) (by omega) (by omega),Option.bind_some,seq_iff,Bool.true_and]
        cases decide (txt (numT (atV s))=s)<;>rfl
  · simp only[show (7:Int)<(s.size:Int) by omega,h,decide_true,decide_false,cond_true,Bool.false_and,cond_false]
theorem pi_num {k:Int} (h0:0≤k) (h1:k<1000000):atV (txt (numT k))=k∧piB (txt (numT k))=true:=by
  have e:atV (txt (numT k))=k:=by
    unfold atV
    rw[show (txt (numT k)).data.toList=numT k from rfl,atoi_num h0];rfl
  refine ⟨e, ?_⟩
  have hl:=numT_len h0 h1
  simp only[piB,e,inRg,show (txt (numT k)).data.toList=numT k from rfl,atoi_num h0,Option.isSome_some,Bool.and_eq_true,decide_eq_true_eq,true_and,and_true]
  exact ⟨by show (numT k).length≤7;omega,by omega,by omega⟩
def wsOf (c:UInt8) (s:ByteArray):List ByteArray:=(spl c [] (bts s)).map txt
theorem split_ws {N:Nat} {s:ByteArray} {c:UInt8} (h:s.size<100000):strings_Split N s (txt [c])=some (wsOf c s,()):=by
  have:=strings_Split_eq (N:=N) (l:=bts s) (c:=c) (by rw[←size_bts];omega)
  rw[txt_bts] at this
  exact this
theorem case_sm {c:Cs} (hc:CaseP c):SmC c:=by
  have a0:=hc.n;have a1:=hc.l1;have a2:=hc.l2;have a3:=hc.l3
  exact ⟨by omega,by omega,by omega,by omega⟩
theorem impl_rule_runI {N : Nat} {c : Cs} (h : CaseP c) (rule : Int) (hN : 4194304 ≤ N) : ∀ d i, c.1.length - i = d → i ≤ c.1.length → ∀ S : Nat → Bool, (∀ k, i ≤ k → S k = false) → CovTo S c.1 i → ∃ T : Nat → Bool, CovTo T c.1 c.1.length ∧
      (∀m,d<m→Q11_L2 N m rule c.1.length i c (pns S i)=some (pns T c.1.length,())):=by
  have h8:=h.n
  intro d
  induction d using Nat.strongRecOn with
  | ind d ih=>
    intro i hd hi S hS hcov
    by_cases he:i=c.1.length
    · subst he
      refine ⟨S,hcov,fun m hm=> ?_⟩
      obtain ⟨m,rfl⟩:∃q,m=q+1:=⟨m - 1,by omega⟩
      rw[Q11_L2_succ]
      simp only[Q11_B2,Q11_K2,ilt_eq,Int.lt_irrefl,decide_false,cond_false]
    · have hlt:i<c.1.length:=by omega
      obtain ⟨n1,n2⟩:=rule_next h.b0 hlt hS hcov
      have hol:=pns_len_le S i
      by_cases h0:gd c.1 i 0=0
      · obtain ⟨e1,e2⟩:=n1 h0
        obtain ⟨T,t1,t2⟩:=ih (c.1.length - (i+1)) (by omega) (i+1) rfl (by omega) S (fun k hk=>hS k (by omega)) e2
        refine ⟨T,t1,fun m hm=> ?_⟩
        obtain ⟨m,rfl⟩:∃q,m=q+1:=⟨m - 1,by omega⟩
        rw[Q11_L2_succ]
        simp only[Q11_B2,ilt_eq,ieq_eq,Int.ofNat_lt,hlt,decide_true,cond_true,chk_of (inB_true hlt),Int.toNat_natCast,h0,iadd_nat (show i<4611686018427387904 by omega)]
        rw[←e1];exact t2 m (by omega)
      · obtain ⟨k,g1,g2,g3⟩:=rule_end (c:=c) rule hlt
        obtain ⟨S1,s1,s2,s3⟩:=n2 h0 (i+1+k) (by omega)
        obtain ⟨T,t1,t2⟩:=ih (c.1.length - (i+1+k)) (by omega) (i+1+k) rfl (by omega) S1 s1 s3
        refine ⟨T,t1,fun m hm=> ?_⟩
        obtain ⟨m,rfl⟩:∃q,m=q+1:=⟨m - 1,by omega⟩
        rw[Q11_L2_succ]
        simp only[Q11_B2,ilt_eq,ieq_eq,Int.ofNat_lt,hlt,decide_true,cond_true,chk_of (inB_true hlt),Int.toNat_natCast,h0,decide_false,cond_false,iadd_nat (show i<4611686018427387904 by omega),chk_of (fitB_in (n:=(pns S i).length+1) (b:=8) (by omega) (by omega))]
        rw[impl_rule_span h g1 g2 g3 _ _ hN,←s2];exact t2 m (by omega)
theorem gap_impl {N:Nat} {c:Cs} (hs:SmC c) (hc:CaseP c) (hN:4194304≤N):∃g:Int,Q45 N c 1=some ((g,true),())∧ -999999≤g∧g≤999999:=by
  have h8:=hc.n
  obtain ⟨T,t1,t2⟩:=impl_rule_runI hc 1 hN c.1.length 0 (by omega) (by omega) (fun _=>false) (fun _ _=>rfl) (fun k hk=>by omega)
  have hcov:covS T c.1=true:=rangeB.2 fun i hi=>by
    by_cases ho:own T i=none
    · simp [ho,t1 i hi ho]
    · simp [ho]
  have t3:Q11 N c 1=some (pns T c.1.length,()):=by
    have:=t2 N (by omega)
    simpa [Q11,len_eq,pns] using this
  have hl:(bwL c).length=c.1.length+1:=bwOut_len c _
  have h1:=cost_bd (planS_P hc T)
  have h2:=least_bd hc
  have h3:=least_eq hc
  have h4:bw c 0=gd (bwL c) 0 0:=rfl
  refine ⟨costOf c (planS T c.1) - gd (bwL c) 0 0, ?_,by omega,by omega⟩
  simp only[Q45,impl_IsCase_eq hs hN,caseB_iff.2 hc,Option.bind_some,bif_not,cond_true,impl_within_eq,show inRg 1 3 1=true from rfl,t3,impl_Case_planFrom_eq hc T hN,hcov,impl_Case_cost_eq (planS_P hc T) hN,impl_Case_backward_eq hc hN,chk_of (inB_in (i:=0) (n:=(bwL c).length) (by omega) (by omega)),Int.toNat_zero]
  rw[isub_in (by omega) (by omega)]
theorem impl_FormatInt_eq {N:Nat} {n:Int} (h: -999999≤n∧n≤999999):Q28 N n=some ((txt (numT n),true),()):=by
  have e:inRg (-999999) 999999 n=true:=by simp only[inRg,Bool.and_eq_true,decide_eq_true_eq];exact h
  simp only[Q28,impl_within_eq,e,Option.bind_some,Bool.not_true,cond_false,strconv_Itoa_eq (n:=n) (by omega) (by omega)]
theorem numberReply_eq {N:Nat} {n:Int} (h: -999999≤n∧n≤999999):Q63 N n true=some ((txt (numT n),true),()):=by
  simp only[Q63,Bool.not_true,cond_false,impl_FormatInt_eq h,Option.bind_some]
theorem numberReply_no (N:Nat) (n:Int):Q63 N n false=some ((⟨#[]⟩,false),()):=rfl
theorem vWord_eq {N:Nat} {n:Int} (h: -999999≤n∧n≤999999):Q70 N n true=some (txt (numT n),()):=by
  simp only[Q70,Bool.not_true,cond_false,impl_FormatInt_eq h,Option.bind_some]
theorem vWord_no (N:Nat) (n:Int):Q70 N n false=some (⟨#[63]⟩,()):=rfl
def wordsOf (l:List Int):ByteArray:=if l.length=0 then ⟨#[110,111,110,101]⟩ else txt (wordsT 32 (fun i=>numT (gd l i 0)) l.length)
theorem listReply_eq {N:Nat} {l:List Int} (hl:l.length≤100) (hb:∀i,i<l.length→0≤gd l i 0∧gd l i 0≤999999) (hN:4194304≤N):Q62 N l true=some ((wordsOf l,true),()):=by
  simp only[Q62,Bool.not_true,cond_false,len_eq]
  refine Q62_L1_run N (fun _=>l) (fun _=>(l.length:Int)) (fun i=>(i:Int)) (fun i=>(List.range i).map fun i=>txt (numT (gd l i 0))) l.length (fun i hi kx=> ?_) (fun kx=> ?_) N (by omega)
  · have b:=hb i hi
    simp only[Q62_B1,ilt_eq,Int.ofNat_lt,hi,decide_true,cond_true,inB_true hi,chk_true',Int.toNat_natCast,impl_FormatInt_eq (n:=gd l i 0) ⟨by omega,b.2⟩,Option.bind_some,map_range_len,Bool.not_true,cond_false]
    rw[chk_of (fitB_in (n:=i+1) (b:=16) (by omega) (by omega)),iadd_nat (show i<4611686018427387904 by omega),List.range_succ,List.map_append,List.map_cons,List.map_nil]
  · simp only[Q62_B1,Q62_K1,ilt_eq,Int.lt_irrefl,decide_false,cond_false,ieq_eq,len_eq,map_range_len,wordsOf,show (⟨#[32]⟩:ByteArray)=txt [32] from rfl]
    by_cases h:l.length=0
    · rw[decide_eq_true (show (l.length:Int)=0 by omega),if_pos h];rfl
    · rw[decide_eq_false (show ¬(l.length:Int)=0 by omega),cond_false,if_neg h,strings_Join_words (k:=6) (by omega) (by omega) (fun i hi=>numT_len (hb i hi).1 (by have:=(hb i hi).2;omega))]
      rfl
theorem vWords_eq {N:Nat} {l:List Int} (hl:l.length≤100) (hb:∀i,i<l.length→0≤gd l i 0∧gd l i 0≤999999) (hN:4194304≤N):Q71 N l true=some (wordsOf l,()):=by
  simp only[Q71,Bool.not_true,cond_false]
  refine Q71_L1_run N (fun _=>l) (fun i=>(i:Int)) (fun i=>(List.range i).map fun i=>txt (numT (gd l i 0))) l.length (fun i hi kx=> ?_) (fun kx=> ?_) N (by omega)
  · have b:=hb i hi
    simp only[Q71_B1,ilt_eq,len_eq,Int.ofNat_lt,hi,decide_true,cond_true,inB_true hi,chk_true',Int.toNat_natCast,vWord_eq (n:=gd l i 0) ⟨by omega,b.2⟩,Option.bind_some,map_range_len]
    rw[chk_of (fitB_in (n:=i+1) (b:=16) (by omega) (by omega)),iadd_nat (show i<4611686018427387904 by omega),List.range_succ,List.map_append,List.map_cons,List.map_nil]
  · simp only[Q71_B1,Q71_K1,ilt_eq,len_eq,Int.lt_irrefl,decide_false,cond_false,ieq_eq,map_range_len,wordsOf]
    by_cases h:l.length=0
    · rw[decide_eq_true (show (l.length:Int)=0 by omega),if_pos h];rfl
    · rw[decide_eq_false (show ¬(l.length:Int)=0 by omega),cond_false,if_neg h]
      have hw:∀i,i<l.length→(numT (gd l i 0)).length≤6:=fun i hi=>numT_len (hb i hi).1 (by have:=(hb i hi).2;omega)
      have key:Q36 N ((List.range l.length).map fun i=>txt (numT (gd l i 0))) ⟨#[32]⟩=some ((txt (wordsT 32 (fun i=>numT (gd l i 0)) l.length),true),()):=by
        simp only[Q36,ieq_eq,len_eq,map_range_len,decide_eq_false (show ¬(l.length:Int)=0 by omega),cond_false,ine_eq,slen,show (⟨#[32]⟩:ByteArray)=txt [32] from rfl,show (((txt [32]).size:Nat):Int)=1 from rfl,decide_true,Bool.not_true]
        let tot:Nat→Nat:=fun i=>l.length - 1+((List.range i).map fun k=>(numT (gd l k 0)).length).sum
        have ht:∀i,i≤l.length→tot i≤99+6*i:=fun i=>by
          induction i with
          | zero=>intro _;simp only[tot,List.range_zero,List.map_nil,List.sum_nil];omega
          | succ i ih=>
            intro hi
            have h1:=ih (by omega)
            have h2:=hw i (by omega)
            simp only[tot,List.range_succ,List.map_append,List.map_cons,List.map_nil,List.sum_append,List.sum_cons,List.sum_nil] at h1 ⊢
            omega
        have h0:isub .i64 (l.length:Int) 1=((tot 0:Nat):Int):=by
          rw[isub_in (by omega) (by omega)]
          simp only[tot,List.range_zero,List.map_nil,List.sum_nil];omega
        rw[h0]
        refine Q36_L1_run N (fun _=>(List.range l.length).map fun i=>txt (numT (gd l i 0))) (fun _=>txt [32]) (fun i=>((tot i:Nat):Int)) (fun _=>(List.range l.length).map fun i=>txt (numT (gd l i 0))) (fun _=>(l.length:Int)) (fun i=>(i:Int)) l.length (fun i hi kx=> ?_) (fun kx=> ?_) N (by omega)
        · have t1:=ht i (by omega)
          have t2:=hw i hi
          have e1:gd ((List.range l.length).map fun i=>txt (numT (gd l i 0))) i ⟨#[]⟩=txt (numT (gd l i 0)):=gd_map_range _ _ hi
          have e2:tot (i+1)=tot i+(numT (gd l i 0)).length:=by
            simp only[tot,List.range_succ,List.map_append,List.map_cons,List.map_nil,List.sum_append,List.sum_cons,List.sum_nil];omega
          have hn:(32:UInt8)∉numT (gd l i 0):=fun hm=>by have:=(numT_mem (hb i hi).1 _ hm).1;simp at this
          simp only[Q36_B1,ilt_eq,Int.ofNat_lt,hi,decide_true,cond_true,inB_true (show i<((List.range l.length).map fun i=>txt (numT (gd l i 0))).length by rw[map_range_len];exact hi),chk_true',Int.toNat_natCast,e1,slen,show (((txt (numT (gd l i 0))).size:Nat):Int)=((numT (gd l i 0)).length:Int) from rfl]
          rw[iadd_in (by omega) (by omega),decide_eq_false (show ¬(4000:Int)<(tot i:Int)+((numT (gd l i 0)).length:Int) by omega),cond_false]
          simp only[strings_Contains,shortB,show (txt (numT (gd l i 0))).size=(numT (gd l i 0)).length from rfl,decide_eq_true (show (numT (gd l i 0)).length<4294967281 by omega),chk_true',Option.bind_some,show (txt (numT (gd l i 0))).data.toList=numT (gd l i 0) from rfl,show (txt [32]).data.toList=[32] from rfl,contains_one,decide_eq_false hn,cond_false,iadd_nat (show i<4611686018427387904 by omega),e2]
          rw[show ((tot i+(numT (gd l i 0)).length:Nat):Int)=(tot i:Int)+((numT (gd l i 0)).length:Int) by omega]
        · simp only[Q36_B1,Q36_K1,ilt_eq,Int.lt_irrefl,decide_false,cond_false]
          rw[strings_Join_words (k:=6) (by omega) (by omega) hw]
          rfl
      rw[key]
      rfl
abbrev Con:Type:=Lg×Lo
def noLog:Lo:=(⟨#[]⟩,(⟨#[]⟩,0))
theorem noLog_ok:logB noLog=true:=by decide
theorem act_no (N:Nat) {w:ByteArray} {ns:List Int} (h:Lib.idxOfS actWords w= -1) (hl:ns.length≤1000):impl_actOf N w ns=some (((0,0,0,0,0),false),()):=by
  simp only[impl_actOf,decide_eq_true (show ns.length≤1000000 by omega),chk_true',actOfV,if_pos (Or.inl h)]
theorem executed_one {N:Nat} {l:Lg} {w:ByteArray} (hN:4194304≤N) (hw:wsOf 32 w=[w]) (hz:w.size<1000) (h:Lib.idxOfS actWords w= -1) {rep:ByteArray} {ok:Bool} (ha:Q53 N l w []=some ((rep,ok),())):
    Q58 N l w=some ((l,bif ok then rep else ⟨#[63]⟩),()):=by
  simp only[Q58,show (⟨#[32]⟩:ByteArray)=txt [32] from rfl,split_ws (N:=N) (s:=w) (c:=32) (by omega),Option.bind_some,hw,show cutB 1 (len [w]) [w].length=true from rfl,chk_true']
  refine Q58_L1_run N (fun _=>[w]) (fun _=>[]) (fun _=>0) (fun _=>0) (fun _=>l) (fun _=>(([],([],([],[]))),([],0))) (fun _=>[]) 0 (fun i hi=>absurd hi (Nat.not_lt_zero _)) (fun kx=> ?_) N (by omega)
  have g:gd [w] 0 (⟨#[]⟩:ByteArray)=w:=rfl
  simp only[Q58_B1,Q58_K1,ilt_eq,Int.lt_irrefl,decide_false,cond_false,show inB 0 [w].length=true from rfl,chk_true',g,act_no N (ns:=[]) h (by simp),Option.bind_some,ha]
  cases ok<;>rfl
theorem executed_two {N:Nat} {l:Lg} {s w u:ByteArray} {k:Int} (hN:4194304≤N) (hw:wsOf 32 s=[w,u]) (hz:s.size<1000) (h:Lib.idxOfS actWords w= -1) (hu:u=txt (numT k)) (hk:0≤k∧k<1000000) {rep:ByteArray} {ok:Bool} (ha:Q53 N l w [k]=some ((rep,ok),())):
    Q58 N l s=some ((l,bif ok then rep else ⟨#[63]⟩),()):=by
  obtain ⟨p1,p2⟩:=pi_num hk.1 hk.2
  simp only[Q58,show (⟨#[32]⟩:ByteArray)=txt [32] from rfl,split_ws (N:=N) (s:=s) (c:=32) (by omega),Option.bind_some,hw,show cutB 1 (len [w,u]) [w,u].length=true from rfl,chk_true']
  refine Q58_L1_run N (fun _=>[w,u]) (fun _=>[u]) (fun _=>1) (fun i=>(i:Int)) (fun _=>l) (fun _=>(([],([],([],[]))),([],0))) (fun i=>[k].take i) 1 (fun i hi kx=> ?_) (fun kx=> ?_) N (by omega)
  · obtain rfl:i=0:=by omega
    have g:gd [u] 0 (⟨#[]⟩:ByteArray)=txt (numT k):=hu
    simp only[Q58_B1,ilt_eq,show ((0:Nat):Int)<1 by omega,decide_true,cond_true,inB_true (show 0<[u].length by simp),chk_true',Int.toNat_natCast,g,impl_ParseInt_eq,p1,p2,Option.bind_some,Bool.not_true,cond_false]
    rfl
  · have g:gd [w,u] 0 (⟨#[]⟩:ByteArray)=w:=rfl
    simp only[Q58_B1,Q58_K1,ilt_eq,show ¬((1:Nat):Int)<1 by omega,decide_false,cond_false,show inB 0 [w,u].length=true from rfl,chk_true',g,show [k].take 1=[k] from rfl,act_no N (ns:=[k]) h (by simp),Option.bind_some,ha]
    cases ok<;>rfl
theorem command_reply {N:Nat} {l:Lg} (hs:SmL l) (hb:ledB l=true) (hN:4194304≤N) {s r:ByteArray} (hz:s.size<1000) (hc:(!(Go.Rx.seq s (⟨#[]⟩:ByteArray)) && (plB s && (decide ((s.size:Int)≤160) && !(hasB s 35 || hasB s 64))))=true) (hr:r.size<100000) (he:Q58 N l s=some ((l,r),())):
    ∃c,Q26 N (l,noLog) s=some ((c,r),()):=by
  refine ⟨(l,(appT noLog (s,r)).1), ?_⟩
  simp only[Q26,impl_Ledger_own_eq hb,Option.bind_some,Q33,impl_IsLedger_eq hs hN,hb,cond_true,impl_IsValidLog_eq (l:=noLog) (by decide) (by decide) hN,noLog_ok,Bool.not_true,cond_false,impl_isCommand_eq (N:=N) (s:=s) (by omega) hN,hc,show ieq noLog.2.2 60=false from rfl,he,impl_AppendRecord_eq (N:=N) (l:=noLog) (e:=(s,r)) (by decide) (by decide) (by show s.size<4194304;omega) (by show r.size<4194304;omega) hN]
theorem ask_best (N:Nat) (l:Lg):Q53 N l ⟨#[98,101,115,116]⟩ []=(Q5 N l.1).bind fun r=>(Q63 N r.1.1 r.1.2).bind fun r1=>some ((r1.1.1,r1.1.2),()):=by
  have n0:decide ((⟨#[98,101,115,116]⟩:ByteArray)=⟨#[110,111,119]⟩)=false:=by decide
  have n1:decide ((⟨#[98,101,115,116]⟩:ByteArray)=⟨#[115,116,111,99,107]⟩)=false:=by decide
  have n2:decide ((⟨#[98,101,115,116]⟩:ByteArray)=⟨#[99,111,115,116]⟩)=false:=by decide
  have n3:decide ((⟨#[98,101,115,116]⟩:ByteArray)=⟨#[97,104,101,97,100]⟩)=false:=by decide
  have n4:decide ((⟨#[98,101,115,116]⟩:ByteArray)=⟨#[115,104,111,114,116]⟩)=false:=by decide
  have n5:decide ((⟨#[98,101,115,116]⟩:ByteArray)=⟨#[108,101,102,116]⟩)=false:=by decide
  have n6:decide ((⟨#[98,101,115,116]⟩:ByteArray)=⟨#[112,108,97,110]⟩)=false:=by decide
  have n7:decide ((⟨#[98,101,115,116]⟩:ByteArray)=⟨#[99,97,115,101]⟩)=false:=by decide
  simp only[Q53,Q53_K1,ieq_eq,ilt_eq,len_eq,List.length_nil,show ¬((0:Nat):Int)=1 by omega,show ¬(0:Int)<((0:Nat):Int) by omega,decide_false,cond_false,seq_iff,n0,n1,n2,n3,n4,n5,n6,n7,decide_true,cond_true]
theorem ask_ahead (N:Nat) (l:Lg):Q53 N l ⟨#[97,104,101,97,100]⟩ []=(Q23 N l).bind fun r=>(Q63 N r.1.1 r.1.2).bind fun r1=>some ((r1.1.1,r1.1.2),()):=by
  have n0:decide ((⟨#[97,104,101,97,100]⟩:ByteArray)=⟨#[110,111,119]⟩)=false:=by decide
  have n1:decide ((⟨#[97,104,101,97,100]⟩:ByteArray)=⟨#[115,116,111,99,107]⟩)=false:=by decide
  have n2:decide ((⟨#[97,104,101,97,100]⟩:ByteArray)=⟨#[99,111,115,116]⟩)=false:=by decide
  simp only[Q53,Q53_K1,ieq_eq,ilt_eq,len_eq,List.length_nil,show ¬((0:Nat):Int)=1 by omega,show ¬(0:Int)<((0:Nat):Int) by omega,decide_false,cond_false,seq_iff,n0,n1,n2,decide_true,cond_true]
theorem ask_table (N:Nat) (l:Lg):Q53 N l ⟨#[116,97,98,108,101]⟩ []=(Q29 N l.1).bind fun r=>(Q62 N r.1.1 r.1.2).bind fun r1=>some ((r1.1.1,r1.1.2),()):=by
  have n0:decide ((⟨#[116,97,98,108,101]⟩:ByteArray)=⟨#[110,111,119]⟩)=false:=by decide
  have n1:decide ((⟨#[116,97,98,108,101]⟩:ByteArray)=⟨#[115,116,111,99,107]⟩)=false:=by decide
  have n2:decide ((⟨#[116,97,98,108,101]⟩:ByteArray)=⟨#[99,111,115,116]⟩)=false:=by decide
  have n3:decide ((⟨#[116,97,98,108,101]⟩:ByteArray)=⟨#[97,104,101,97,100]⟩)=false:=by decide
  have n4:decide ((⟨#[116,97,98,108,101]⟩:ByteArray)=⟨#[115,104,111,114,116]⟩)=false:=by decide
  have n5:decide ((⟨#[116,97,98,108,101]⟩:ByteArray)=⟨#[108,101,102,116]⟩)=false:=by decide
  have n6:decide ((⟨#[116,97,98,108,101]⟩:ByteArray)=⟨#[112,108,97,110]⟩)=false:=by decide
  have n7:decide ((⟨#[116,97,98,108,101]⟩:ByteArray)=⟨#[99,97,115,101]⟩)=false:=by decide
  have n8:decide ((⟨#[116,97,98,108,101]⟩:ByteArray)=⟨#[98,101,115,116]⟩)=false:=by decide
  simp only[Q53,Q53_K1,ieq_eq,ilt_eq,len_eq,List.length_nil,show ¬((0:Nat):Int)=1 by omega,show ¬(0:Int)<((0:Nat):Int) by omega,decide_false,cond_false,seq_iff,n0,n1,n2,n3,n4,n5,n6,n7,n8,decide_true,cond_true]
theorem ask_prices (N:Nat) (l:Lg):Q53 N l ⟨#[112,114,105,99,101,115]⟩ []=(Q27 N l.1).bind fun r=>(Q62 N r.1.1 r.1.2).bind fun r1=>some ((r1.1.1,r1.1.2),()):=by
  have n0:decide ((⟨#[112,114,105,99,101,115]⟩:ByteArray)=⟨#[110,111,119]⟩)=false:=by decide
  have n1:decide ((⟨#[112,114,105,99,101,115]⟩:ByteArray)=⟨#[115,116,111,99,107]⟩)=false:=by decide
  have n2:decide ((⟨#[112,114,105,99,101,115]⟩:ByteArray)=⟨#[99,111,115,116]⟩)=false:=by decide
  have n3:decide ((⟨#[112,114,105,99,101,115]⟩:ByteArray)=⟨#[97,104,101,97,100]⟩)=false:=by decide
  have n4:decide ((⟨#[112,114,105,99,101,115]⟩:ByteArray)=⟨#[115,104,111,114,116]⟩)=false:=by decide
  have n5:decide ((⟨#[112,114,105,99,101,115]⟩:ByteArray)=⟨#[108,101,102,116]⟩)=false:=by decide
  have n6:decide ((⟨#[112,114,105,99,101,115]⟩:ByteArray)=⟨#[112,108,97,110]⟩)=false:=by decide
  have n7:decide ((⟨#[112,114,105,99,101,115]⟩:ByteArray)=⟨#[99,97,115,101]⟩)=false:=by decide
  have n8:decide ((⟨#[112,114,105,99,101,115]⟩:ByteArray)=⟨#[98,101,115,116]⟩)=false:=by decide
  have n9:decide ((⟨#[112,114,105,99,101,115]⟩:ByteArray)=⟨#[116,97,98,108,101]⟩)=false:=by decide
  have n10:decide ((⟨#[112,114,105,99,101,115]⟩:ByteArray)=⟨#[116,117,114,110,115]⟩)=false:=by decide
  have n11:decide ((⟨#[112,114,105,99,101,115]⟩:ByteArray)=⟨#[104,111,114,105,122,111,110,115]⟩)=false:=by decide
  simp only[Q53,Q53_K1,ieq_eq,ilt_eq,len_eq,List.length_nil,show ¬((0:Nat):Int)=1 by omega,show ¬(0:Int)<((0:Nat):Int) by omega,decide_false,cond_false,seq_iff,n0,n1,n2,n3,n4,n5,n6,n7,n8,n9,n10,n11,decide_true,cond_true]
theorem ask_gap (N:Nat) (l:Lg):Q53 N l ⟨#[103,97,112]⟩ [1]=(Q45 N l.1 1).bind fun r=>(Q63 N r.1.1 r.1.2).bind fun r1=>some ((r1.1.1,r1.1.2),()):=by
  have n0:decide ((⟨#[103,97,112]⟩:ByteArray)=⟨#[114,117,108,101]⟩)=false:=by decide
  have g:gd [(1:Int)] 0 0=1:=rfl
  simp only[Q53,ieq_eq,len_eq,List.length_singleton,show ((1:Nat):Int)=1 by omega,decide_true,cond_true,seq_iff,n0,cond_false,show inB 0 1=true from rfl,chk_true',g]
theorem ask_fresh (N:Nat) (l:Lg):Q53 N l ⟨#[102,114,101,115,104]⟩ [2]=(Q6 N l.1 2).bind fun r=>(Q63 N r.1.2.1 r.1.2.2).bind fun r1=>some ((r1.1.1,r1.1.2),()):=by
  have n0:decide ((⟨#[102,114,101,115,104]⟩:ByteArray)=⟨#[114,117,108,101]⟩)=false:=by decide
  have n1:decide ((⟨#[102,114,101,115,104]⟩:ByteArray)=⟨#[103,97,112]⟩)=false:=by decide
  have g:gd [(2:Int)] 0 0=2:=rfl
  simp only[Q53,ieq_eq,len_eq,List.length_singleton,show ((1:Nat):Int)=1 by omega,decide_true,cond_true,seq_iff,n0,n1,cond_false,show inB 0 1=true from rfl,chk_true',g]
theorem ix_best:Lib.idxOfS actWords ⟨#[98,101,115,116]⟩= -1:=by decide
theorem ix_ahead:Lib.idxOfS actWords ⟨#[97,104,101,97,100]⟩= -1:=by decide
theorem ix_table:Lib.idxOfS actWords ⟨#[116,97,98,108,101]⟩= -1:=by decide
theorem ix_prices:Lib.idxOfS actWords ⟨#[112,114,105,99,101,115]⟩= -1:=by decide
theorem ix_gap:Lib.idxOfS actWords ⟨#[103,97,112]⟩= -1:=by decide
theorem ix_fresh:Lib.idxOfS actWords ⟨#[102,114,101,115,104]⟩= -1:=by decide
theorem ws_best:wsOf 32 ⟨#[98,101,115,116]⟩=[⟨#[98,101,115,116]⟩]:=by decide
theorem ws_ahead:wsOf 32 ⟨#[97,104,101,97,100]⟩=[⟨#[97,104,101,97,100]⟩]:=by decide
theorem ws_table:wsOf 32 ⟨#[116,97,98,108,101]⟩=[⟨#[116,97,98,108,101]⟩]:=by decide
theorem ws_prices:wsOf 32 ⟨#[112,114,105,99,101,115]⟩=[⟨#[112,114,105,99,101,115]⟩]:=by decide
theorem ws_gap:wsOf 32 ⟨#[103,97,112,32,49]⟩=[⟨#[103,97,112]⟩,⟨#[49]⟩]:=by decide
theorem ws_fresh:wsOf 32 ⟨#[102,114,101,115,104,32,50]⟩=[⟨#[102,114,101,115,104]⟩,⟨#[50]⟩]:=by decide
theorem num_one:(⟨#[49]⟩:ByteArray)=txt (numT 1):=by
  rw[show (1:Int)=((1:Nat):Int) from rfl,numT_nat,Lib.decDigits,dif_pos (show 1<10 by omega)];rfl
theorem num_two:(⟨#[50]⟩:ByteArray)=txt (numT 2):=by
  rw[show (2:Int)=((2:Nat):Int) from rfl,numT_nat,Lib.decDigits,dif_pos (show 2<10 by omega)];rfl
theorem cm_best:(!(Go.Rx.seq ⟨#[98,101,115,116]⟩ (⟨#[]⟩:ByteArray)) && (plB ⟨#[98,101,115,116]⟩ && (decide (((⟨#[98,101,115,116]⟩:ByteArray).size:Int)≤160) && !(hasB ⟨#[98,101,115,116]⟩ 35 || hasB ⟨#[98,101,115,116]⟩ 64))))=true:=by
  rw[seq_iff];decide
theorem cm_ahead:(!(Go.Rx.seq ⟨#[97,104,101,97,100]⟩ (⟨#[]⟩:ByteArray)) && (plB ⟨#[97,104,101,97,100]⟩ && (decide (((⟨#[97,104,101,97,100]⟩:ByteArray).size:Int)≤160) && !(hasB ⟨#[97,104,101,97,100]⟩ 35 || hasB ⟨#[97,104,101,97,100]⟩ 64))))=true:=by
  rw[seq_iff];decide
theorem cm_table:(!(Go.Rx.seq ⟨#[116,97,98,108,101]⟩ (⟨#[]⟩:ByteArray)) && (plB ⟨#[116,97,98,108,101]⟩ && (decide (((⟨#[116,97,98,108,101]⟩:ByteArray).size:Int)≤160) && !(hasB ⟨#[116,97,98,108,101]⟩ 35 || hasB ⟨#[116,97,98,108,101]⟩ 64))))=true:=by
  rw[seq_iff];decide
theorem cm_prices:(!(Go.Rx.seq ⟨#[112,114,105,99,101,115]⟩ (⟨#[]⟩:ByteArray)) && (plB ⟨#[112,114,105,99,101,115]⟩ && (decide (((⟨#[112,114,105,99,101,115]⟩:ByteArray).size:Int)≤160) && !(hasB ⟨#[112,114,105,99,101,115]⟩ 35 || hasB ⟨#[112,114,105,99,101,115]⟩ 64))))=true:=by
  rw[seq_iff];decide
theorem cm_gap:(!(Go.Rx.seq ⟨#[103,97,112,32,49]⟩ (⟨#[]⟩:ByteArray)) && (plB ⟨#[103,97,112,32,49]⟩ && (decide (((⟨#[103,97,112,32,49]⟩:ByteArray).size:Int)≤160) && !(hasB ⟨#[103,97,112,32,49]⟩ 35 || hasB ⟨#[103,97,112,32,49]⟩ 64))))=true:=by
  rw[seq_iff];decide
theorem cm_fresh:(!(Go.Rx.seq ⟨#[102,114,101,115,104,32,50]⟩ (⟨#[]⟩:ByteArray)) && (plB ⟨#[102,114,101,115,104,32,50]⟩ && (decide (((⟨#[102,114,101,115,104,32,50]⟩:ByteArray).size:Int)≤160) && !(hasB ⟨#[102,114,101,115,104,32,50]⟩ 35 || hasB ⟨#[102,114,101,115,104,32,50]⟩ 64))))=true:=by
  rw[seq_iff];decide
theorem numT_size {n:Int} (h: -999999≤n∧n≤999999):(txt (numT n)).size<100000:=by
  have:=numT_len21 (n:=n) (by omega) (by omega)
  show (numT n).length<100000
  omega
theorem wordsOf_size {l:List Int} (hl:l.length≤100) (hb:∀i,i<l.length→0≤gd l i 0∧gd l i 0≤999999):(wordsOf l).size<100000:=by
  unfold wordsOf
  by_cases h:l.length=0
  · rw[if_pos h];decide
  · rw[if_neg h]
    have h1:=wordsT_len 32 (fun i=>numT (gd l i 0)) (k:=6) l.length (fun i hi=>numT_len (hb i hi).1 (by have:=(hb i hi).2;omega))
    have h2:l.length*(6+1)≤100*7:=Nat.mul_le_mul hl (Nat.le_refl _)
    show (wordsT 32 (fun i=>numT (gd l i 0)) l.length).length<100000
    omega
theorem ahead_bd {l:Lg} (hb:ledB l=true): -999999≤(aheadOf l).1∧(aheadOf l).1≤999999:=by
  have hl:=(led_iff.1 hb).1
  have hn:=hl.n
  have h8:=hl.c.n
  have hw:=hl.now
  unfold aheadOf
  rw[hb,cond_true]
  cases ilt 0 (len (shortsL l)) with
  | true=>show -999999≤(0:Int)∧(0:Int)≤999999;omega
  | false=>
    have h:=rsum_bd (f:=fun k=>pcost l.1 l.2.1 (l.2.2.toNat+k)) (lo:= -20000) (hi:=20000) (n:=l.2.1.length - l.2.2.toNat) (fun i hi=>pcost_bd hl (by omega))
    show -999999≤rsum (fun k=>pcost l.1 l.2.1 (l.2.2.toNat+k)) (l.2.1.length - l.2.2.toNat)∧rsum (fun k=>pcost l.1 l.2.1 (l.2.2.toNat+k)) (l.2.1.length - l.2.2.toNat)≤999999
    omega
theorem ConsoleLots_ok {N:Nat} {code:List Int} (hv:Q69 N code=some (false,())) {l:Lg} (hd:Q85 N code=some (l,())) (hs:SmL l) (hN:4194304≤N):laws_FnConsoleLots N code=some (true,()):=by
  simp only[laws_FnConsoleLots,hv,hd,Option.bind_some,cond_false,impl_NewConsole_eq hs hN,newCon]
  cases hb:ledB l with
  | false=>simp only[cond_false,Bool.not_false,cond_true,spec_IsLedger_eq hs hN,hb,Option.bind_some]
  | true=>
    have hc:=(led_iff.1 hb).1.c
    have hcb:=caseB_iff.2 hc
    have h8:=hc.n
    have sc:=case_sm hc
    have b1:=least_bd hc
    have hB:Q5 N l.1=some ((leastOf l.1,true),()):=by rw[impl_BestCost_eq sc hN,bcOf,hcb];rfl
    obtain ⟨g,hG,g1,g2⟩:=gap_impl sc hc hN
    have b2:=fbV_bd hc (L:=2) (by omega)
    have hF:Q6 N l.1 2=some (((fbSt l.1 2 (2 ^ l.1.1.length)).1,(fbV l.1 2,true)),()):=by rw[impl_BestFresh_eq sc 2 hN,bfOf,hcb];rfl
    have hT:Q29 N l.1=some ((fwL l.1 l.1.1.length,true),()):=by rw[impl_ForwardCosts_eq sc hN,fwP,hcb];rfl
    have hP:Q27 N l.1=some ((prL l.1 l.1.1.length,true),()):=by rw[impl_FairPrices_eq sc hN,priceP,hcb];rfl
    have hA:=impl_CostAhead_eq hs hN
    have b3:=ahead_bd hb
    have lT:(fwL l.1 l.1.1.length).length≤100:=by rw[fwL_len];omega
    have bT:∀i,i<(fwL l.1 l.1.1.length).length→0≤gd (fwL l.1 l.1.1.length) i 0∧gd (fwL l.1 l.1.1.length) i 0≤999999:=fun i hi=>by
      rw[fwL_len] at hi
      rw[fwL_gd l.1 l.1.1.length (show i≤l.1.1.length by omega)]
      have:=fw_bd hc i i (Nat.le_refl _) (by omega)
      omega
    have lP:(prL l.1 l.1.1.length).length≤100:=by rw[prL_len];omega
    have bP:∀i,i<(prL l.1 l.1.1.length).length→0≤gd (prL l.1 l.1.1.length) i 0∧gd (prL l.1 l.1.1.length) i 0≤999999:=fun i hi=>by
      rw[prL_len] at hi
      rw[prL_gd l.1 l.1.1.length hi]
      have:=prA_bd hc hi
      omega
    obtain ⟨c1,e1⟩:=command_reply hs hb hN (by decide) cm_best (numT_size (n:=leastOf l.1) (by omega)) (executed_one (rep:=txt (numT (leastOf l.1))) (ok:=true) hN ws_best (by decide) ix_best (by rw[ask_best,hB];simp only[Option.bind_some];rw[numberReply_eq (n:=leastOf l.1) (by omega)];rfl))
    obtain ⟨c2,e2⟩:=command_reply hs hb hN (by decide) cm_table (wordsOf_size lT bT) (executed_one (rep:=wordsOf (fwL l.1 l.1.1.length)) (ok:=true) hN ws_table (by decide) ix_table (by rw[ask_table,hT];simp only[Option.bind_some];rw[listReply_eq lT bT hN];rfl))
    obtain ⟨c3,e3⟩:=command_reply hs hb hN (by decide) cm_prices (wordsOf_size lP bP) (executed_one (rep:=wordsOf (prL l.1 l.1.1.length)) (ok:=true) hN ws_prices (by decide) ix_prices (by rw[ask_prices,hP];simp only[Option.bind_some];rw[listReply_eq lP bP hN];rfl))
    obtain ⟨c4,e4⟩:=command_reply hs hb hN (by decide) cm_gap (numT_size (n:=g) (by omega)) (executed_two (rep:=txt (numT g)) (ok:=true) (k:=1) hN ws_gap (by decide) ix_gap num_one (by omega) (by rw[ask_gap,hG];simp only[Option.bind_some];rw[numberReply_eq (n:=g) (by omega)];rfl))
    obtain ⟨c5,e5⟩:=command_reply hs hb hN (by decide) cm_fresh (numT_size (n:=fbV l.1 2) (by omega)) (executed_two (rep:=txt (numT (fbV l.1 2))) (ok:=true) (k:=2) hN ws_fresh (by decide) ix_fresh num_two (by omega) (by rw[ask_fresh,hF];simp only[Option.bind_some];rw[numberReply_eq (n:=fbV l.1 2) (by omega)];rfl))
    have e6:∃c,Q26 N (l,noLog) ⟨#[97,104,101,97,100]⟩=some ((c,bif (aheadOf l).2 then txt (numT (aheadOf l).1) else ⟨#[63]⟩),()):=by
      cases ho:(aheadOf l).2 with
      | true=>exact command_reply hs hb hN (by decide) cm_ahead (numT_size (n:=(aheadOf l).1) b3) (executed_one (rep:=txt (numT (aheadOf l).1)) (ok:=true) hN ws_ahead (by decide) ix_ahead (by rw[ask_ahead,hA];simp only[Option.bind_some,ho];rw[numberReply_eq (n:=(aheadOf l).1) b3];rfl))
      | false=>exact command_reply hs hb hN (by decide) cm_ahead (show (⟨#[63]⟩:ByteArray).size<100000 by decide) (executed_one (rep:=⟨#[]⟩) (ok:=false) hN ws_ahead (by decide) ix_ahead (by rw[ask_ahead,hA];simp only[Option.bind_some,ho,numberReply_no]))
    obtain ⟨c6,e6⟩:=e6
    have e7:Q70 N (aheadOf l).1 (aheadOf l).2=some (bif (aheadOf l).2 then txt (numT (aheadOf l).1) else ⟨#[63]⟩,()):=by
      cases ho:(aheadOf l).2 with
      | true=>rw[vWord_eq b3];rfl
      | false=>rw[vWord_no];rfl
    simp only[cond_true,Bool.not_true,cond_false]
    rw[show ((l,((⟨#[]⟩:ByteArray),((⟨#[]⟩:ByteArray),(0:Int)))):Con)=(l,noLog) from rfl,e1,e2,e3,e4,e5,e6]
    simp only[Option.bind_some,hB,hT,hP,hG,hF,hA,vWord_eq (N:=N) (n:=leastOf l.1) (by omega),vWord_eq (N:=N) (n:=g) (by omega),vWord_eq (N:=N) (n:=fbV l.1 2) (by omega),e7,vWords_eq lT bT hN,vWords_eq lP bP hN,seq_self,Bool.not_true,cond_false,cond_true]
theorem laws_FnConsoleLots_law (code:List Int) (h:RngB code):∃N,laws_FnConsoleLots N code=some (true,()):=by
  refine ⟨4194304, ?_⟩
  have hN:=Nat.le_refl 4194304
  by_cases hl:(65536:Int)<code.length
  · simp only[laws_FnConsoleLots,Q69,ilt_eq,len_eq,hl,decide_true,Option.bind_some,cond_true]
  · obtain ⟨l,e,hs⟩:=spec_DrawIsLedger_ok (N:=4194304) (bud_zero h (show code.length≤65536 by omega) 2000 (by omega)) hN
    exact ConsoleLots_ok (by simp only[Q69,ilt_eq,len_eq,hl,decide_false]) (by simp only[Q85,e,Option.bind_some]) hs hN
end Go.Rx.Px
