/-
  What the law WorkerRots needs, part 3 of 7: theory, and walks through the code. Names are said short.
-/
import Derived.Test.YtjideiielmlccaaGreatSWorkerRotsB
set_option linter.unusedVariables false
set_option linter.unusedSimpArgs false
set_option maxRecDepth 20000
set_option maxHeartbeats 8000000
namespace Go.ab
open Go.aA
theorem Kk {a b c:Nat} (h:a ^^^ c=b ^^^ c):a=b:=by
 have:=congrArg (· ^^^ c) h;simpa [Nat.xor_assoc] using this
theorem RG {a b c:Nat} (h:c ^^^ a=c ^^^ b):a=b:=by
 rw [Nat.xor_comm c a,Nat.xor_comm c b] at h; exact Kk h
theorem RH {a:Nat} (h:a < 2147483648):2147483648≤a ^^^ 3988292384:=by
 have h1:(a ^^^ 3988292384).testBit 31=true:=by
  rw [Nat.testBit_xor,Nat.testBit_lt_two_pow (show a < 2 ^ 31 from h)]; rfl
 refine Nat.le_of_not_lt fun k=>?_
 rw [Nat.testBit_lt_two_pow (show a ^^^ 3988292384 < 2 ^ 31 from k)] at h1;cases h1
theorem aaU {a b:Nat} (ao:a < 4294967296) (U:b < 4294967296) (h:sE a=sE b):a=b:=by
 unfold sE at h;have akq:=RH (a:=a / 2) (by omega);have tb:=RH (a:=b / 2) (by omega);split at h<;>split at h
 · have:=Kk h; omega
 · omega
 · omega
 · omega
theorem Kl {a b:Nat} (ao:a < 4294967296) (U:b < 4294967296):∀ k,py k a=py k b→a=b
 | 0,h=>h
 | k+1,h=>Kl ao U k (aaU (F3 ao k) (F3 U k) h)
theorem aaV {c d x:Nat} (an:c < 4294967296) (hd:d < 4294967296) (ad:x < 256) (h:tI c x=tI d x):c=d:=
 Kk (Kl (vc an (by omega)) (vc hd (by omega)) 8 h)
theorem aaW {c x y:Nat} (an:c < 4294967296) (ad:x < 256) (av:y < 256) (h:tI c x=tI c y):x=y:=
 RG (Kl (vc an (by omega)) (vc an (by omega)) 8 h)
theorem RI:∀ (l:List UInt8) {c d:Nat},c < 4294967296→d < 4294967296→qc c l=qc d l→c=d
 | [],c,d,_,_,h=>h
 | x::l,c,d,an,hd,h=>aaV an hd x.toNat_lt (RI l (zs an x.toNat_lt) (zs hd x.toNat_lt) h)
theorem RJ (c:Nat) (a b:List UInt8):qc c (a++b)=qc (qc c a) b:=by unfold qc; rw [List.foldl_append]
theorem aaX {l:List UInt8} {k:Nat} {x y:UInt8} (ad:l[k]?=some x) (av:y≠x):jj (l.set k y)≠jj l:=by
 intro h;have hk:=(List.getElem?_eq_some_iff.1 ad).1
 have fw:l=l.take k++x::l.drop (k+1):=by
  have:=(List.getElem?_eq_some_iff.1 ad).2
  rw [←this]; simp
 have jh:l.set k y=l.take k++y::l.drop (k+1):=(by rw [List.set_eq_take_append_cons_drop,if_pos hk]);unfold jj zr at h;have hi:=F4 (l.set k y) (c:=4294967295-0) (by omega);have a2:=F4 l (c:=4294967295-0) (by omega);have aa:qc (4294967295-0) (l.set k y)=qc (4294967295-0) l:=(by omega);rw [jh] at aa
 conv at aa=>rhs; rw [fw]
 rw [RJ,RJ] at aa;have aG:=F4 (l.take k) (c:=4294967295-0) (by omega);have aq:=RI (l.drop (k+1)) (zs aG y.toNat_lt) (zs aG x.toNat_lt) aa;have a6:=aaW aG y.toNat_lt x.toNat_lt aq;exact av (UInt8.toNat.inj a6)
theorem Km {b l:List UInt8} (h:l.length=4):iP (b++l) (((b++l).length:Int)-4) 4=(jI l:Int):=by
 have a':(b++l).length=b.length+4:=(by rw [List.length_append,h]);have c7:ln (b++l) (((b++l).length:Int)-4) 4=true:=(by unfold ln; exact decide_eq_true ⟨by omega,by omega,by omega,by omega,by omega⟩);unfold iP;rw [if_pos c7,show (((b++l).length:Int)-4).toNat=b.length from by omega,List.drop_left,show (4:Int).toNat=4 from rfl,List.take_of_length_le (by omega)]
theorem RK {b l:List UInt8} (h:l.length=4):(b++l).take ((b++l).length-4)=b:=by
 rw [List.length_append,h,Nat.add_sub_cancel]; simp
theorem aaY {N:List bC} {k:Nat} {x y:UInt8} (ad:(jJ N)[k]?=some x) (av:y≠x):hj ((jJ N).set k y)=([],9):=by
 have hp:=eM (jj (gq N)) 4;have aF:=zt 0 (gq N);have aaZ:=Rp (x:=(jj (gq N):Int)) (.inr (.inr rfl):wu 4) (by omega) (by change (zr 0 (gq N):Int) < _; omega);have hk:=(List.getElem?_eq_some_iff.1 ad).1;unfold jJ wi at ad hk ⊢;rw [List.length_append,hp] at hk;by_cases h:k < (gq N).length
 · rw [List.set_append_left _ _ h];rw [List.getElem?_append_left h] at ad;refine Bd (by rw [List.length_append,hp]; omega) ?_;rw [Km hp,RK hp,aaZ];intro e;exact aaX ad av (by omega)
 · rw [List.set_append_right _ _ (by omega)];rw [List.getElem?_append_right (by omega)] at ad;have xP:((eJ (jj (gq N):Int) 4).set (k-(gq N).length) y).length=4:=(by rw [List.length_set,hp]);refine Bd (by rw [List.length_append,xP]; omega) ?_;rw [Km xP,RK xP];intro e;have jh:=Kc (.inr (.inr rfl):wu 4) xP;rw [e] at jh
   have uU:(eJ (jj (gq N):Int) 4)[k-(gq N).length]?=some y:=by
    rw [jh,List.getElem?_set_self (by rw [hp]; omega)]
   rw [ad] at uU;exact av (Option.some.inj uU).symm
theorem akr {b r:List UInt8} {n:Nat} {a f a2:Int} {q:Bool} (h:dn b n (a,q)=(f,(a2,false))):dn (b++r) n (a,q)=(f,(a2,false)):=by
 cases c7:ln b a n with
 | false=>rw [xK c7] at h; simp at h
 | true =>
  rw [tL c7] at h
  have hk:=c7
  unfold ln at hk
  have hk:=of_decide_eq_true hk
  have jK:ln (b++r) a n=true:=by unfold ln; rw [List.length_append]; exact decide_eq_true ⟨by omega,by omega,by omega,by omega,by omega⟩
  rw [tL jK,←h]
  have bG:iP (b++r) a n=iP b a n:=by
   unfold iP
   rw [if_pos c7,if_pos jK,List.drop_append_of_le_length (by omega),List.take_append_of_le_length (by rw [List.length_drop]; omega)]
  rw [bG]
theorem aa0 {b:List UInt8} {s:Int×Bool} (h:s.2=true):∀ n,(i' b n s).2=s
 | 0=>rfl
 | n+1=>by unfold i'; rw [if_pos h]
theorem RL {b:List UInt8}:∀ (n:Nat) {s:Int×Bool},(i' b n s).2.2=false→s.2=false:=fun n s h=>by
 cases aF:s.2 with
 | false=>rfl
 | true=>rw [aa0 aF,aF] at h; cases h
theorem aa1 {b:List UInt8} {s:Int×Bool} (h:s.2=true):∀ n,(jS b n s).2=s
 | 0=>rfl
 | n+1=>by unfold jS; rw [if_pos h]
theorem RM {b:List UInt8}:∀ (n:Nat) {s:Int×Bool},(jS b n s).2.2=false→s.2=false:=fun n s h=>by
 cases aF:s.2 with
 | false=>rfl
 | true=>rw [aa1 aF,aF] at h; cases h
theorem aa2 {b:List UInt8} (h:(hj b).2=0):∃ c a0 N,8≤b.length∧iP b ((b.length:Int)-4) 4=(jj (b.take (b.length-4)):Int)∧b.take 4=[73,78,75,49]∧dn (b.take (b.length-4)) 2 (4,false)=(c,(a0,false))∧jS (b.take (b.length-4)) c.toNat (a0,false)=(N,((b.length:Int)-4,false))∧kd N≠[]∧(hj b).1=kd N:=by
 by_cases h1:b.length < 4
 · rw [Gr h1] at h; cases h
 by_cases aa:¬ iP b ((b.length:Int)-4) 4=(jj (b.take (b.length-4)):Int)
 · rw [Bd h1 aa] at h; cases h
 have aa:=Classical.not_not.1 aa;by_cases aq:b.length-4 < 4∨¬ b.take 4=[73,78,75,49]
 · rw [Ka h1 aa aq] at h; cases h
 obtain ⟨⟨c,a0,q0⟩,a6⟩:∃ x,dn (b.take (b.length-4)) 2 (4,false)=x:=⟨_,rfl⟩;obtain ⟨⟨N,a,q⟩,bT⟩:∃ x,jS (b.take (b.length-4)) c.toNat (a0,q0)=x:=⟨_,rfl⟩;by_cases ed:q=true∨¬ a=(b.length:Int)-4
 · rw [Gs h1 aa aq a6.symm bT ed] at h; cases h
 by_cases jH:kd N=[]
 · rw [Rl h1 aa aq a6.symm bT ed jH] at h; cases h
 have dL:q=false:=by cases q with
  | false=>rfl
  | true=>exact absurd (.inl rfl) ed
 have ao:a=(b.length:Int)-4:=Classical.byContradiction fun k=>ed (.inr k)
 subst dL; subst ao;have aa3:q0=false:=RM _ (by rw [bT]);subst aa3;exact ⟨c,a0,N,by omega,aa,Classical.byContradiction fun k=>aq (.inr k),a6,bT,jH,by rw [Kb h1 aa aq a6.symm bT ed jH]⟩
theorem aa4 {b:List UInt8} (h:(hj b).2≠0):(hj b).1=[]:=by
 unfold hj at h ⊢;split
 · rfl
 split
 · rfl
 split
 · rfl
 split
 · rfl
 split
 · rfl
 · rename_i h1 aa aq a6 bT;rw [if_neg h1,if_neg aa,if_neg aq,if_neg a6,if_neg bT] at h;exact absurd rfl h
def Bh (x:Int):UInt8:=fK (1+(IntKind.u64.wrap x) % 255)
def xQ (b:List UInt8) (at_:Int):Nat:=(lK at_ (b.length:Int)).toNat
def qf (b:List UInt8) (at_ x:Int):List UInt8:=match b[xQ b at_]? with
 | none=>b
 | some y=>b.set (xQ b at_) (y ^^^ Bh x)
theorem aa5 (x:Int):Bh x≠0:=by
 unfold Bh;intro h;have h1:=tH (1+(IntKind.u64.wrap x) % 255);rw [h] at h1;have aa:=Int.emod_nonneg (IntKind.u64.wrap x) (by omega:(255:Int)≠0);have aq:=Int.emod_lt_of_pos (IntKind.u64.wrap x) (by omega:(0:Int) < 255);have a6:((0:UInt8).toNat:Int)=0:=rfl;omega
theorem aa6 (y:UInt8) {z:UInt8} (h:z≠0):y ^^^ z≠y:=by
 intro e;apply h;have jh:=congrArg UInt8.toNat e;rw [UInt8.toNat_xor] at jh;have uU:y.toNat ^^^ z.toNat=y.toNat ^^^ 0:=(by rw [jh]; simp);exact UInt8.toNat.inj (RG uU)
theorem RN {b:List UInt8} (h:1≤b.length) (at_:Int):xQ b at_ < b.length:=by
 unfold xQ lK;have aa:=Int.emod_nonneg (IntKind.u64.wrap at_) (by omega:(b.length:Int)≠0);have aq:=Int.emod_lt_of_pos (IntKind.u64.wrap at_) (by omega:(0:Int) < (b.length:Int));omega
theorem RO {b:List UInt8} {at_ x:Int} {y:UInt8} (h:b[xQ b at_]?=some y):qf b at_ x=b.set (xQ b at_) (y ^^^ Bh x):=by unfold qf; rw [h]
theorem aa7 (b:List UInt8) (at_ x:Int):(qf b at_ x).length=b.length:=by
 unfold qf; split
 · rfl
 · rw [List.length_set]
theorem aa8 {b:List UInt8} (h:1≤b.length) (at_ x:Int):∃ y,b[xQ b at_]?=some y∧qf b at_ x=b.set (xQ b at_) (y ^^^ Bh x)∧y ^^^ Bh x≠y:=by
 have:=RN h at_;exact ⟨_,List.getElem?_eq_getElem this,RO (List.getElem?_eq_getElem this),aa6 _ (aa5 x)⟩
theorem RP {words:List ag} (h:eD words=0):10≤(kc words).length:=by
 rw [←Bb h,nP]; omega
theorem aa9 {words:List ag} (h:eD words=0) (at_ x:Int):hj (qf (kc words) at_ x)=([],9):=by
 have a':=RP h;obtain ⟨y,h1,aa,aq⟩:=aa8 (b:=kc words) (by omega) at_ x;rw [aa];rw [←Bb h] at h1 ⊢;exact aaY h1 aq
end Go.ab
namespace Go.ab
open Go.aA
theorem Da {b:List UInt8} {n:Nat} {a f a2:Int} {q:Bool} (aI:wu n) (h:dn b n (a,q)=(f,(a2,false))):q=false∧0≤a∧a2=a+n∧a2≤b.length∧0≤f∧f < 256 ^ n∧b.drop a.toNat=eJ f n++b.drop a2.toNat:=by
 cases c7:ln b a n with
 | false=>rw [xK c7] at h; simp at h
 | true =>
  rw [tL c7] at h
  have hk:=c7
  unfold ln at hk
  have hk:=of_decide_eq_true hk
  simp only [Prod.mk.injEq] at h
  obtain ⟨rfl,rfl,rfl⟩:=h
  have bG:iP b a n=(jI ((b.drop a.toNat).take n):Int):=by
   unfold iP
   rw [if_pos c7,Int.toNat_natCast]
  have a':((b.drop a.toNat).take n).length=n:=by rw [List.length_take,List.length_drop]; omega
  have hp:=JT (l:=(b.drop a.toNat).take n)
  rw [a'] at hp
  refine ⟨rfl,by omega,rfl,by omega,by omega,by rw [bG]; have aa:=Int.ofNat_lt.2 hp; rw [Int.natCast_pow] at aa; exact aa,?_⟩
  rw [bG,Kc aI a',show (a+(n:Int)).toNat=a.toNat+n from by omega,←List.drop_drop,List.take_append_drop]
theorem aa_ {b:List UInt8} {a a2:Int} {q:Bool} {e:bm} (h:qd b (a,q)=(e,(a2,false))):q=false∧0≤a∧0≤a2∧xO e∧b.drop a.toNat=kI e++b.drop a2.toNat:=by
 unfold qd at h;simp only [Prod.mk.injEq] at h;generalize aB:dn b 4 (a,q)=x at *;obtain ⟨f,hi,ea⟩:=x;dsimp only at h;generalize c_:dn b 2 (hi,ea || decide (f > 1114111))=y at *;obtain ⟨t,a3,fb⟩:=y;dsimp only at h;obtain ⟨rfl,h⟩:=h;simp only [Prod.mk.injEq] at h;obtain ⟨rfl,rfl⟩:=h;obtain ⟨bw,cB,d_,hS,ih,nV,mO⟩:=Da (.inr (.inl rfl)) c_;obtain ⟨rfl,Bi⟩:=Bool.or_eq_false_iff.1 bw;obtain ⟨rfl,c5,zA,Db,Kn,aa',Ko⟩:=Da (.inr (.inr rfl)) aB;have bd:¬ f > 1114111:=of_decide_eq_false Bi;have hw:=wrap32 Kn (by omega);refine ⟨rfl,c5,by omega,⟨by dsimp only; rw [hw]; exact Kn,by dsimp only; rw [hw]; omega,ih,by dsimp only; omega⟩,?_⟩;rw [Ko,mO];unfold kI;rw [hw,List.append_assoc]
theorem RQ {b:List UInt8}:∀ (n:Nat) {a a2:Int} {es:List bm},i' b n (a,false)=(es,(a2,false))→0≤a→es.length=n∧(∀ e∈es,xO e)∧0≤a2∧b.drop a.toNat=es.flatMap kI++b.drop a2.toNat
 | 0,a,a2,es,h,ao=>by
  unfold i' at h
  simp only [Prod.mk.injEq] at h
  obtain ⟨rfl,rfl,_⟩:=h
  exact ⟨rfl,by simp,ao,by simp⟩
 | n+1,a,a2,es,h,ao=>by
  unfold i' at h
  rw [if_neg (by simp)] at h
  simp only [Prod.mk.injEq] at h
  generalize aB:qd b (a,false)=x at *
  obtain ⟨e,hi,ea⟩:=x
  dsimp only at h
  generalize c_:i' b n (hi,ea)=y at *
  obtain ⟨aba,s2⟩:=y
  dsimp only at h
  obtain ⟨rfl,rfl⟩:=h
  have dL:=RL n (s:=(hi,ea)) (by rw [c_])
  dsimp only at dL
  subst dL
  obtain ⟨_,cB,d_,hS,ih⟩:=aa_ aB
  obtain ⟨fV,c5,zA,Db⟩:=RQ n c_ d_
  refine ⟨by rw [List.length_cons,fV],fun nN he=>?_,zA,by rw [ih,Db,List.flatMap_cons,List.append_assoc]⟩
  rcases List.mem_cons.1 he with rfl|he
  · exact hS
  · exact c5 nN he
theorem abb {b:List UInt8} {a a2:Int} {q:Bool} {x:bC} (h:kJ b (a,q)=(x,(a2,false))):q=false∧0≤a∧0≤a2∧wv x∧b.drop a.toNat=jk x++b.drop a2.toNat:=by
 unfold kJ at h;simp only [Prod.mk.injEq] at h;generalize aB:dn b 1 (a,q)=aw at *;obtain ⟨f,hi,ea⟩:=aw;dsimp only at h;generalize c_:dn b 2 (hi,ea || decide (f > 1))=y at *;obtain ⟨c,a3,fb⟩:=y;dsimp only at h;generalize fM:i' b c.toNat (a3,fb)=z at *;obtain ⟨es,aks⟩:=z;dsimp only at h;obtain ⟨rfl,rfl⟩:=h;have dL:=RL _ (s:=(a3,fb)) (by rw [fM]);dsimp only at dL;subst dL;obtain ⟨bw,cB,d_,hS,ih,nV,mO⟩:=Da (.inr (.inl rfl)) c_;obtain ⟨rfl,Bi⟩:=Bool.or_eq_false_iff.1 bw;obtain ⟨rfl,c5,zA,Db,Kn,aa',Ko⟩:=Da (.inl rfl) aB;obtain ⟨m1,m2,m3,m4⟩:=RQ _ fM (by omega);have bd:¬ f > 1:=of_decide_eq_false Bi;refine ⟨rfl,c5,m3,⟨by dsimp only; omega,m2⟩,?_⟩;rw [Ko,mO,m4];unfold jk;dsimp only
 have fw:(if decide (f=1)=true then (1:Int) else 0)=f:=by
  by_cases h1:f=1
  · rw [if_pos (decide_eq_true h1)]; exact h1.symm
  · rw [if_neg (by simpa using h1)]; omega
 rw [fw,m1,show ((c.toNat:Nat):Int)=c from by omega];simp only [List.append_assoc]
theorem RR {b:List UInt8}:∀ (n:Nat) {a a2:Int} {N:List bC},jS b n (a,false)=(N,(a2,false))→0≤a→N.length=n∧(∀ x∈N,wv x)∧0≤a2∧b.drop a.toNat=N.flatMap jk++b.drop a2.toNat
 | 0,a,a2,N,h,ao=>by
  unfold jS at h
  simp only [Prod.mk.injEq] at h
  obtain ⟨rfl,rfl,_⟩:=h
  exact ⟨rfl,by simp,ao,by simp⟩
 | n+1,a,a2,N,h,ao=>by
  unfold jS at h
  rw [if_neg (by simp)] at h
  simp only [Prod.mk.injEq] at h
  generalize aB:kJ b (a,false)=x at *
  obtain ⟨e,hi,ea⟩:=x
  dsimp only at h
  generalize c_:jS b n (hi,ea)=y at *
  obtain ⟨aba,s2⟩:=y
  dsimp only at h
  obtain ⟨rfl,rfl⟩:=h
  have dL:=RM n (s:=(hi,ea)) (by rw [c_])
  dsimp only at dL
  subst dL
  obtain ⟨_,cB,d_,hS,ih⟩:=abb aB
  obtain ⟨fV,c5,zA,Db⟩:=RR n c_ d_
  refine ⟨by rw [List.length_cons,fV],fun nN he=>?_,zA,by rw [ih,Db,List.flatMap_cons,List.append_assoc]⟩
  rcases List.mem_cons.1 he with rfl|he
  · exact hS
  · exact c5 nN he
theorem RS {b:List UInt8} (h:(hj b).2=0):∃ N,b=jJ N∧kd N≠[]∧(hj b).1=kd N:=by
 obtain ⟨c,a0,N,h1,aa,aq,a6,bT,ed,jH⟩:=aa2 h;refine ⟨N,?_,ed,jH⟩;have jT:(b.take (b.length-4)).length=b.length-4:=(by rw [List.length_take]; omega);obtain ⟨_,_,d_,hS,ih,nV,mO⟩:=Da (.inr (.inl rfl)) a6;obtain ⟨m1,m2,m3,m4⟩:=RR _ bT (by omega);rw [List.drop_of_length_le (l:=b.take (b.length-4)) (i:=((b.length:Int)-4).toNat) (by rw [jT]; omega),List.append_nil] at m4
 have abc:b.take (b.length-4)=gq N:=by
  rw [←List.take_append_drop 4 (b.take (b.length-4)),List.take_take,show min 4 (b.length-4)=4 from by omega,aq]
  have abd:(b.take (b.length-4)).drop 4=eJ c 2++(b.take (b.length-4)).drop a0.toNat:=mO
  rw [abd,m4]
  unfold gq
  rw [m1,show ((c.toNat:Nat):Int)=c from by omega,List.append_assoc]
 have hd:(b.drop (b.length-4)).length=4:=(by rw [List.length_drop]; omega);have fw:b=b.take (b.length-4)++b.drop (b.length-4):=(List.take_append_drop _ _).symm;have Gw:=Km (b:=b.take (b.length-4)) hd;rw [←fw,aa] at Gw;have jh:=Kc (.inr (.inr rfl):wu 4) hd;rw [←Gw] at jh;unfold jJ wi;rw [←abc,jh];exact fw
theorem abe {b:List UInt8} (h:(hj b).2=0):∃ words,eD words=0∧b=kc words∧(hj b).1=gI words:=by
 obtain ⟨N,h1,aa,aq⟩:=RS h;by_cases an:wo N=true∧N.length≠0∧N.length≤721∧qX N=true∧(iW N).2=true∧eD (iW N).1=0∧gI (iW N).1=N
 · refine ⟨(iW N).1,an.2.2.2.2.2.1,?_,by rw [aq,Rc an]⟩;rw [←Bb an.2.2.2.2.2.1,an.2.2.2.2.2.2]; exact h1
 · exact absurd (wq an) aa
abbrev jL:=Bool×List (Int×Int)
def xR (b:List UInt8) (s:Int×Bool):(Int×Int)×(Int×Bool):=(((dn b 4 s).1,(dn b 2 (dn b 4 s).2).1),(dn b 2 (dn b 4 s).2).2)
def nW (b:List UInt8):Nat→Int×Bool→List (Int×Int)×(Int×Bool)
 | 0,s=>([],s)
 | n+1,s=>if s.2=true then ([],s) else ((xR b s).1::(nW b n (xR b s).2).1,(nW b n (xR b s).2).2)
def xS (b:List UInt8) (s:Int×Bool):jL×(Int×Bool):=
 ((decide ((dn b 1 s).1=1),(nW b (dn b 2 (dn b 1 s).2).1.toNat (dn b 2 (dn b 1 s).2).2).1),(nW b (dn b 2 (dn b 1 s).2).1.toNat (dn b 2 (dn b 1 s).2).2).2)
def jU (b:List UInt8):Nat→Int×Bool→List jL×(Int×Bool)
 | 0,s=>([],s)
 | n+1,s=>if s.2=true then ([],s) else ((xS b s).1::(jU b n (xS b s).2).1,(jU b n (xS b s).2).2)
def xT (e:bm):Int×Int:=(e.rune,e.to)
def vj (x:bC):jL:=(x.1,x.2.map xT)
theorem abf {b r:List UInt8} {a:Nat} {e:bm} (h:b.drop a=kI e++r) (he:xO e):xR b ((a:Int),false)=(xT e,(((a+6:Nat):Int),false)):=by
 unfold xO at he;unfold kI at h;rw [List.append_assoc] at h;have bw:=tM (q:=false) h (.inr (.inr rfl)) (by omega) (by omega);have cB:=sH h;rw [eM] at cB;have d_:=tM (q:=false) cB (.inr (.inl rfl)) (by omega) (by omega);unfold xR xT;rw [bw]; dsimp only; rw [d_]
theorem RT {b:List UInt8}:∀ (es:List bm) (a:Nat) (r:List UInt8),b.drop a=es.flatMap kI++r→(∀ e∈es,xO e)→nW b es.length ((a:Int),false)=(es.map xT,(((a+6*es.length:Nat):Int),false))
 | [],a,r,h,_=>by simp [nW]
 | e::es,a,r,h,ad=>by
  rw [List.flatMap_cons,List.append_assoc] at h
  have bw:=abf h (ad e (by simp))
  have cB:=sH h
  rw [Kd] at cB
  have d_:=RT es (a+6) r cB (fun e h=>ad e (by simp [h]))
  rw [List.length_cons]
  conv=>lhs; unfold nW
  rw [if_neg (by simp),bw]
  simp only [d_,List.map_cons]
  rw [show a+6+6*es.length=a+6*(es.length+1) from by omega]
theorem abg {b r:List UInt8} {a:Nat} {x:bC} (h:b.drop a=jk x++r) (ad:wv x):xS b ((a:Int),false)=(vj x,(((a+sI x:Nat):Int),false)):=by
 unfold wv at ad;unfold jk at h;rw [List.append_assoc,List.append_assoc] at h;have bd:0≤(if x.1=true then (1:Int) else 0)∧(if x.1=true then (1:Int) else 0) < 256:=(by split<;>omega);have bw:=tM (q:=false) h (.inl rfl) bd.1 (by have:=bd.2; omega);have cB:=sH h;rw [eM] at cB;have d_:=tM (q:=false) cB (.inr (.inl rfl)) (by omega) (by have:=ad.1; omega);have hS:=sH cB;rw [eM] at hS;have ih:=RT x.2 _ r hS ad.2;unfold xS vj sI;rw [bw]; dsimp only; rw [d_]; dsimp only;rw [Int.toNat_natCast,ih]; dsimp only;have fw:decide ((if x.1=true then (1:Int) else 0)=1)=x.1:=(by cases x.1<;>rfl);rw [fw,show a+1+2+6*x.2.length=a+(3+6*x.2.length) from by omega]
theorem RU {b:List UInt8}:∀ (N:List bC) (a:Nat) (r:List UInt8),b.drop a=N.flatMap jk++r→(∀ x∈N,wv x)→jU b N.length ((a:Int),false)=(N.map vj,(((a+qZ N:Nat):Int),false))
 | [],a,r,h,_=>by simp [jU,qZ]
 | x::N,a,r,h,ad=>by
  rw [List.flatMap_cons,List.append_assoc] at h
  have bw:=abg h (ad x (by simp))
  have cB:=sH h
  rw [Ke] at cB
  have d_:=RU N (a+sI x) r cB (fun e h=>ad e (by simp [h]))
  rw [List.length_cons]
  conv=>lhs; unfold jU
  rw [if_neg (by simp),bw]
  simp only [d_,List.map_cons]
  rw [show a+sI x+qZ N=a+qZ (x::N) from by unfold qZ; simp only [List.map_cons,List.sum_cons]; omega]
def ny (g:List ag→Int×Int→List ag×Bool):List ag→List (Int×Int)→List ag×Bool
 | out,[]=>(out,true)
 | out,e::es=>if e.1 > 1114111 then (out,false) else if (g out e).2=false∨(g out e).1.length=out.length then ((g out e).1,false) else ny g (g out e).1 es
def hb (N:List jL):Nat→Int→Int→ag→List ag→List ag×Bool
 | 0,_,_,_,out=>(out,false)
 | f+1,n,d,a,out=>if n < 0∨n≥N.length∨d > 12∨out.length > 60 then (out,false) else match N[n.toNat]? with
  | none=>(out,false)
  | some x=>ny (fun out e=>hb N f e.2 (d+1) (a++eX e.1) out) (if x.1=true then out++[a] else out) x.2
theorem RV {g:List ag→Int×Int→List ag×Bool} (h:∀ out e,out.length≤61→(g out e).1.length≤61):∀ (es:List (Int×Int)) (out:List ag),out.length≤61→(ny g out es).1.length≤61
 | [],out,dJ=>dJ
 | e::es,out,dJ=>by
  unfold ny
  split
  · exact dJ
  · split
    · exact h out e dJ
    · exact RV h es _ (h out e dJ)
theorem Gx (N:List jL):∀ (f:Nat) (n d:Int) (a:ag) (out:List ag),out.length≤61→(hb N f n d a out).1.length≤61
 | 0,_,_,_,out,h=>h
 | f+1,n,d,a,out,h=>by
  unfold hb
  split
  · exact h
  · rename_i aI
    split
    · exact h
    · refine RV (fun out e h=>Gx N f _ _ _ out h) _ _ ?_
      split
      · rw [List.length_append]; simp only [List.length_cons,List.length_nil]
        have:¬ out.length > 60:=fun k=>aI (.inr (.inr (.inr k)))
        omega
      · exact h
theorem RW {g:List ag→Int×Int→List ag×Bool} (h:∀ out e,(∀ t∈out,t.length≤1000)→∀ t∈(g out e).1,t.length≤1000):∀ (es:List (Int×Int)) (out:List ag),(∀ t∈out,t.length≤1000)→∀ t∈(ny g out es).1,t.length≤1000
 | [],out,dJ=>dJ
 | e::es,out,dJ=>by
  unfold ny
  split
  · exact dJ
  · split
    · exact h out e dJ
    · exact RW h es _ (h out e dJ)
theorem RX (N:List jL):∀ (f:Nat) (n d:Int) (a:ag) (out:List ag),(a.length:Int)≤4*d→(∀ t∈out,t.length≤1000)→∀ t∈(hb N f n d a out).1,t.length≤1000
 | 0,_,_,_,out,_,h=>h
 | f+1,n,d,a,out,ao,h=>by
  unfold hb
  split
  · exact h
  · rename_i aI
    split
    · exact h
    · refine RW (fun out e h=>RX N f _ _ _ out (by have:=xM e.1; simp only [List.length_append]; omega) h) _ _ ?_
      have:¬ d > 12:=fun k=>aI (.inr (.inr (.inl k)))
      split
      · intro t aQ
        rcases List.mem_append.1 aQ with aQ|aQ
        · exact h t aQ
        · simp only [List.mem_singleton] at aQ; subst aQ; omega
      · exact h
section
variable {s:ch}
theorem abh {a:ag} {d:Int} {f:Nat} {N:List jL} (Ki:∀ (n:Nat) (a:ag) (l:List ag) (y:List ag×List bm),s[n]?=some y→d+1+k2 y.1≤12→l.length+y.1.length≤60→hb N f (n:Int) (d+1) a l=(l++y.1.map (a++·),true)) :
 ∀ {gs:List (Nat×List ag)} {es:List bm},cx (fun g e=>e.rune=(g.1:Int)∧∃ (j:Nat) (es:List bm),e.to=(j:Int)∧s[j]?=some (g.2,es)) gs es→(∀ g∈gs,jt g.1∧g.2≠[]∧d+1+k2 g.2≤12)→∀ l:List ag,l.length+(gs.flatMap fun g=>g.2.map (du g.1++·)).length≤60 →
  ny (fun out e=>hb N f e.2 (d+1) (a++eX e.1) out) l (es.map xT)=(l++(gs.flatMap fun g=>g.2.map (du g.1++·)).map (a++·),true):=by
 intro gs es h
 induction h with
 | nil=>intro _ l _; simp [ny]
 | @cons g e gs es xi aB fk =>
  intro aO l a'
  obtain ⟨h1,j,p_,aa,aq⟩:=xi
  obtain ⟨bw,d_,cB⟩:=aO g (by simp)
  have abi:=bw
  unfold jt at abi
  rw [List.flatMap_cons,List.length_append,List.length_map] at a'
  have abj:hb N f (xT e).2 (d+1) (a++eX (xT e).1) l=(l++g.2.map ((a++du g.1)++·),true):=by
   show hb N f e.to (d+1) (a++eX e.rune) l=_
   rw [aa,h1,xv bw]
   exact Ki j _ l (g.2,p_) aq cB (by simp only; omega)
  have Dc:0 < g.2.length:=List.length_pos_iff.2 d_
  rw [List.map_cons]
  unfold ny
  rw [if_neg (by show ¬ e.rune > _; omega),abj,if_neg (by rintro (h|h); cases h; simp only [List.length_append,List.length_map] at h; omega)]
  rw [fk (fun e' rQ=>aO e' (by simp [rQ])) _ (by simp only [List.length_append,List.length_map]; omega)]
  rw [List.flatMap_cons,List.map_append,List.map_map,List.append_assoc]
  congr 3
  apply List.map_congr_left
  intro t _
  simp
theorem abk (kL:∀ y∈s,nq s y∧fD y.1):∀ (f n:Nat) (a:ag) (d:Int) (l:List ag) (y:List ag×List bm),s[n]?=some y→0≤d→d+k2 y.1≤12→13≤d+f→l.length+y.1.length≤60→hb ((fa s).map vj) (f+1) (n:Int) d a l=(l++y.1.map (a++·),true):=by
 intro f
 induction f with
 | zero=>intro n a d l y aI a8 h1 aa _; omega
 | succ f bq =>
  intro n a d l y aI a8 h1 aa a'
  obtain ⟨an,aO⟩:=kL y (List.mem_of_getElem? aI)
  have gE:=(List.getElem?_eq_some_iff.1 aI).1
  have q1:((fa s).map vj).length=s.length:=by rw [List.length_map,tF]
  have fr:=FR (x:=y) aO
  have ad:((fa s).map vj)[((n:Int)).toNat]?=some (vj (iB y.1,y.2)):=by rw [Int.toNat_natCast,List.getElem?_map,Gt aI]; rfl
  conv=>lhs; unfold hb
  rw [if_neg (by rw [q1]; rintro (h|h|h|h)<;>omega),ad]
  rw [show vj (iB y.1,y.2)=(iB y.1,y.2.map xT) from rfl]
  dsimp only
  have hlen:=congrArg List.length fr
  rw [List.length_append] at hlen
  have key:=fun Bg xh=>abh (s:=s) (a:=a) (d:=d) (f:=f+1) (N:=(fa s).map vj) (fun n a l y aI hd a'=>bq n a (d+1) l y aI (by omega) hd (by omega) a') an (fun g hI=>⟨(Be aO hI).1,(Be aO hI).2.1,by have:=C_ aO hI; omega⟩) Bg xh
  cases bd:iB y.1 with
  | true =>
   rw [bd,if_pos rfl] at fr
   rw [bd,if_pos rfl] at hlen
   rw [if_pos rfl,key _ (by simp only [List.length_append,List.length_cons,List.length_nil] at hlen ⊢; omega)]
   conv=>rhs; rw [fr]
   simp
  | false =>
   rw [bd,if_neg (by decide)] at fr
   rw [bd,if_neg (by decide)] at hlen
   rw [if_neg (by decide),key _ (by simp only [List.length_nil] at hlen ⊢; omega)]
   conv=>rhs; rw [fr]
   simp
end
def lQ (b:List UInt8):Bool:=decide (¬ b.length < 4∧iP b ((b.length:Int)-4) 4=(jj (b.take (b.length-4)):Int))
def gy (b:List UInt8):List ag×Int:=
 if lQ b=false then ([],9) else
 if (jU b (dn b 2 (4,false)).1.toNat (dn b 2 (4,false)).2).2.2=true then ([],8) else
 if (hb (jU b (dn b 2 (4,false)).1.toNat (dn b 2 (4,false)).2).1 14 0 0 [] []).2=false then ([],8) else
 if ¬ eD (hb (jU b (dn b 2 (4,false)).1.toNat (dn b 2 (4,false)).2).1 14 0 0 [] []).1=0∨¬ kc (hb (jU b (dn b 2 (4,false)).1.toNat (dn b 2 (4,false)).2).1 14 0 0 [] []).1=b then ([],8) else
 ((hb (jU b (dn b 2 (4,false)).1.toNat (dn b 2 (4,false)).2).1 14 0 0 [] []).1,0)
theorem RY {b:List UInt8} (h:lQ b=false):gy b=([],9):=by unfold gy; rw [if_pos h]
section
variable {b:List UInt8} {c a0 a:Int} {q0 q ok:Bool} {N:List jL} {l:List ag}
theorem Kp (h:lQ b=true) (h1:(c,(a0,q0))=dn b 2 (4,false)) (aa:jU b c.toNat (a0,q0)=(N,(a,q))) (aq:q=true):gy b=([],8):=by
 unfold gy; rw [if_neg (by simp [h]),←h1]; simp only [aa]; rw [if_pos aq]
theorem RZ (h:lQ b=true) (h1:(c,(a0,q0))=dn b 2 (4,false)) (aa:jU b c.toNat (a0,q0)=(N,(a,q))) (aq:q=false) (a6:hb N 14 0 0 [] []=(l,ok)) (bT:ok=false):gy b=([],8):=by
 unfold gy; rw [if_neg (by simp [h]),←h1]; simp only [aa]; rw [if_neg (by simp [aq]),if_pos (by rw [a6]; exact bT)]
theorem Kq (h:lQ b=true) (h1:(c,(a0,q0))=dn b 2 (4,false)) (aa:jU b c.toNat (a0,q0)=(N,(a,q))) (aq:q=false) (a6:hb N 14 0 0 [] []=(l,ok)) (bT:ok=true) (ed:¬ eD l=0∨¬ kc l=b):gy b=([],8):=by
 unfold gy; rw [if_neg (by simp [h]),←h1]; simp only [aa,a6]; rw [if_neg (by simp [aq]),if_neg (by simp [bT]),if_pos ed]
theorem Kr (h:lQ b=true) (h1:(c,(a0,q0))=dn b 2 (4,false)) (aa:jU b c.toNat (a0,q0)=(N,(a,q))) (aq:q=false) (a6:hb N 14 0 0 [] []=(l,ok)) (bT:ok=true) (ed:¬ (¬ eD l=0∨¬ kc l=b)):gy b=(l,0):=by
 unfold gy; rw [if_neg (by simp [h]),←h1]; simp only [aa,a6]; rw [if_neg (by simp [aq]),if_neg (by simp [bT]),if_neg ed]
end
theorem R0 (b:List UInt8):gy b=([],9)∧lQ b=false∨(gy b=([],8)∧lQ b=true)∨(lQ b=true∧(gy b).2=0∧eD (gy b).1=0∧kc (gy b).1=b):=by
 cases dJ:lQ b with
 | false=>exact .inl ⟨RY dJ,rfl⟩
 | true =>
  right
  obtain ⟨⟨c,a0,q0⟩,h1⟩:∃ x,x=dn b 2 (4,false):=⟨_,rfl⟩
  obtain ⟨⟨N,a,q⟩,aa⟩:∃ x,jU b c.toNat (a0,q0)=x:=⟨_,rfl⟩
  cases aq:q with
  | true=>exact .inl ⟨Kp dJ h1 aa aq,rfl⟩
  | false =>
   obtain ⟨⟨l,ok⟩,a6⟩:∃ x,hb N 14 0 0 [] []=x:=⟨_,rfl⟩
   cases bT:ok with
   | false=>exact .inl ⟨RZ dJ h1 aa aq a6 bT,rfl⟩
   | true =>
    by_cases ed:¬ eD l=0∨¬ kc l=b
    · exact .inl ⟨Kq dJ h1 aa aq a6 bT ed,rfl⟩
    · rw [Kr dJ h1 aa aq a6 bT ed]
      exact .inr ⟨rfl,rfl,Classical.byContradiction fun k=>ed (.inl k),Classical.byContradiction fun k=>ed (.inr k)⟩
theorem Ks {b:List UInt8} (h:lQ b=false):hj b=([],9):=by
 unfold lQ at h;have h:=of_decide_eq_false h;by_cases h1:b.length < 4
 · exact Gr h1
 · exact Bd h1 fun k=>h ⟨h1,k⟩
theorem R1 {b:List UInt8} (h:lQ b=true):(hj b).2=0∨hj b=([],8):=by
 unfold lQ at h;obtain ⟨h1,aa⟩:=of_decide_eq_true h;unfold hj;rw [if_neg h1,if_neg (fun k=>k aa)];split
 · exact .inr rfl
 split
 · exact .inr rfl
 split
 · exact .inr rfl
 · exact .inl rfl
theorem R2 {words:List ag} (h:eD words=0):gy (kc words)=(words,0):=by
 have zq:=RF h;have a':=(Ba h).2;have R3:=Kj h
 have abl:lQ (kc words)=true:=by
  cases dJ:lQ (kc words) with
  | true=>rfl
  | false=>rw [Ks dJ] at R3; simp at R3
 have he:kc words=gq (gI words)++eJ (jj (gq (gI words))) 4:=(by rw [←Bb h]; rfl);have C8:(kc words).drop 4=eJ (gI words).length 2++((gI words).flatMap jk++eJ (jj (gq (gI words))) 4):=(by rw [he]; unfold gq; simp);have a6:=tM (q:=false) C8 (.inr (.inl rfl)) (by omega) (by omega);have C9:=sH C8;rw [eM] at C9;have bT:=RU _ 6 _ C9 zq
 have hw:hb ((gI words).map vj) 14 0 0 [] []=(words,true):=by
  by_cases hw:words=[]
  · subst hw
    rw [F1 rfl]; decide
  · have im:=rS h
    have c7:=AW im.2 im.1 hw
    have gw:=sD h
    unfold nv at gw
    rw [if_neg hw] at gw
    obtain ⟨rZ,a8⟩:=c7.root
    have aaT:=Rv im.2
    have:=abk (s:=rP words) (fun y av=>⟨(c7.node y av).u3,(c7.node y av).eQ⟩) 13 0 [] 0 [] (words,rZ) a8 (by omega) (by simp only; omega) (by omega) (by have:=(y8 h).1; simp only [List.length_nil]; omega)
    rw [gw]
    simpa using this
 exact Kr abl a6.symm (by rw [Int.toNat_natCast]; exact bT) rfl hw rfl (by rintro (k|k); exact k h; exact k rfl)
theorem Bj (b:List UInt8):(hj b).2=(gy b).2∧((hj b).2=0→eD (gy b).1=0∧(hj b).1=gI (gy b).1):=by
 rcases R0 b with ⟨h1,aa⟩|⟨h1,aa⟩|⟨h1,aa,aq,a6⟩
 · rw [Ks aa,h1];exact ⟨rfl,fun h=>by cases h⟩
 · rcases R1 aa with h|h
   · obtain ⟨words,bw,cB,d_⟩:=abe h;rw [cB,R2 bw] at h1;simp at h1
   · rw [h,h1];exact ⟨rfl,fun h=>by cases h⟩
 · have k:=Kj aq;rw [a6] at k;rw [k,aa];exact ⟨rfl,fun _=>⟨aq,rfl⟩⟩
end Go.ab
namespace Go.ab
open Go.aA
theorem abm {l:List ag} (aF:p9 l) (hw:∀ w∈l,word w=true) (a':l.length≤60):eD l=0:=by
 unfold eD;rw [if_neg (by omega),if_pos (List.all_eq_true.2 hw),if_pos (Pq aF)]
end Go.ab
namespace Go.ab
open Go.aA
theorem abn {cuts:List Key} {words:List ag} (h:eD words=0) (shard:Int):eD (p8 cuts words shard)=0:=by
 obtain ⟨h1,aa,aq⟩:=y8 h;refine abm (List.Pairwise.filter _ aq) (fun w hw=>aa w (List.mem_filter.1 hw).1) ?_;have:=List.length_filter_le (sx cuts shard) words;unfold p8; omega
theorem abo {c:b1} (h:may c=true):eD c.words=0:=by
 unfold may at h;simp only [Bool.and_eq_true,beq_iff_eq] at h;exact h.1.1
theorem abp {c:b1} (s:Int):(rN c s).length≤c.words.length:=List.length_filter_le _ _
theorem Kt {c:b1} (h:may c=true) (s:Int):eD (rN c s)=0:=abn (abo h) s
theorem R4 {c:b1} (h:may c=true) {s:Int} (a8:0≤s) (h1:s < (hs c:Int)):fP c s=kc (rN c s)∧vg c s=0:=by
 obtain ⟨aa,aq⟩:=C4 (c:=c) a8 h1;exact ⟨aa.symm,aq.symm.trans (Kt h s)⟩
end Go.ab
namespace Go.aA
open Go
section
variable {R iN:Nat→Prop} {w:World}
theorem Ku {α:Type}:∀ (A C B:List α),(List.range' C.length A.length).filterMap (fun i=>(C++A++B)[i]?)=A
 | [],C,B=>rfl
 | a::A,C,B=>by
  have:=Ku A (C++[a]) B
  rw [List.length_cons,List.range'_succ,List.filterMap_cons]
  have h1:(C++a::A++B)[C.length]?=some a:=by simp
  rw [h1]
  simp only
  rw [List.length_append,List.length_cons,List.length_nil] at this
  rw [show C++a::A++B=C++[a]++A++B from by simp,this]
theorem Sep.zB {A B:List (dc R)} (h:Sep (A++B) iN w):Sep (B++A) iN w:=by
 have:=h.dj (List.range' A.length B.length++List.range' 0 A.length) (by
  rw [List.all_eq_true]
  intro i al
  rw [List.mem_append,List.mem_range'_1,List.mem_range'_1] at al
  rw [List.length_append]
  exact decide_eq_true (by omega)) (by
  rw [List.nodup_append]
  refine ⟨List.nodup_range',List.nodup_range',fun a ao b U=>?_⟩
  rw [List.mem_range'_1] at ao U
  omega)
 rw [List.filterMap_append] at this;have h1:=Ku B A [];have aa:=Ku A [] B;rw [List.append_nil] at h1;rw [List.length_nil,List.nil_append] at aa;rw [h1,aa] at this;exact this
theorem Sep.uT {A B:List (dc R)} {x:dc R} (h:Sep (A++x::B) iN w):Sep [bA A,x,bA B] iN w:=by
 have h1:Sep ((A++[x])++B) iN w:=(by simpa using h);have aa:Sep (A++[x,bA B]) iN w:=(by simpa using h1.close);have aq:=(aa.zB).close (L1:=[x,bA B]) (L2:=A);exact aq.dj [2,0,1] rfl (by decide)
theorem Sep.abq {A B:List (dc R)} {x:dc R} (h:Sep [bA A,x,bA B] iN w):Sep (A++x::B) iN w:=by
 have h1:Sep ([x,bA B]++[bA A]) iN w:=h.dj [1,2,0] rfl (by decide);have aa:=(h1.open).zB;have aq:Sep ((A++[x])++[bA B]) iN w:=(by simpa using aa);have a6:=aq.open;simpa using a6
def l' (b:Nat):Value:=ptr b 0
structure jb where
 shard:Int
 ptr:Nat
 eQ:List UInt8
 now:List UInt8
def gr (eI u8:TypeId) (x:jb):dc R:=nt fun vs:Value×Value=>bA [az x.ptr [vs.1,vs.2] eI,bb dR u8 1 vs.1 x.eQ,bb dR u8 1 vs.2 x.now]
theorem abr {eI u8:TypeId} {D:List jb} {k:Nat} {x:jb} (ad:D[k]?=some x):∀ F:Nat→Prop,(bA (R:=R) (D.map (gr eI u8))).p F w→(bA (R:=R) [bA ((D.take k).map (gr eI u8)),gr eI u8 x,bA ((D.drop (k+1)).map (gr eI u8))]).p F w:=by
 intro F h;have hk:=(List.getElem?_eq_some_iff.1 ad).1
 have e:D=D.take k++x::D.drop (k+1):=by
  have:=(List.getElem?_eq_some_iff.1 ad).2
  rw [←this]; simp
 rw [e] at h;rw [List.map_append,List.map_cons] at h;exact Sep.uT h
theorem abt {eI u8:TypeId} {D:List jb} {k:Nat} {x y:jb} (ad:D[k]?=some x):∀ F:Nat→Prop,(bA (R:=R) [bA ((D.take k).map (gr eI u8)),gr eI u8 y,bA ((D.drop (k+1)).map (gr eI u8))]).p F w→(bA (R:=R) ((D.set k y).map (gr eI u8))).p F w:=by
 intro F h;have hk:=(List.getElem?_eq_some_iff.1 ad).1;have e:D.set k y=D.take k++y::D.drop (k+1):=(by rw [List.set_eq_take_append_cons_drop,if_pos hk]);rw [e,List.map_append,List.map_cons];exact Sep.abq h
def abu (h3 eI u8:TypeId) (cm:Nat) (life:Int) (D:List jb):dc R:=nt fun er:Nat=>bA [az cm [.map (some er),.int .i64 life] h3,kb fo l' er (D.map fun x=>(x.shard,x.ptr)),bA (D.map (gr eI u8))]
end
end Go.aA
namespace Go.ab
open Go.aA
abbrev cW:=Int×List UInt8×List UInt8
def iX (D:List cW) (s:Int):Option cW:=D.find? fun x=>decide (x.1=s)
def r2 (D:List cW) (s:Int):Int:=match iX D s with|none=>4|some _=>0
def hl (D:List cW) (s:Int):List UInt8:=match iX D s with|none=>[]|some x=>x.2.2
def wx (D:List cW) (s:Int):Bool:=match iX D s with|none=>false|some x=>decide (x.2.2≠x.2.1)
def oA (D:List cW) (s:Int) (f:List UInt8→List UInt8):List cW:=D.map fun x=>if x.1=s then (x.1,x.2.1,f x.2.1) else x
def Dd (D:List cW) (s at_ x:Int):List cW:=oA D s fun b=>qf b at_ x
def R5 (D:List cW) (s:Int):List cW:=oA D s id
def oB (D:List cW):Prop:=(D.map (·.1)).Nodup∧∀ x∈D,1≤x.2.1.length∧x.2.1.length≤4000000∧x.2.2.length=x.2.1.length
theorem abv (D:List cW) (s:Int) (f:List UInt8→List UInt8):(oA D s f).map (·.1)=D.map (·.1):=by
 unfold oA;rw [List.map_map];apply List.map_congr_left;intro x _;simp only [Function.comp];split<;>rfl
theorem oB.put {D:List cW} (h:oB D) (s:Int) {f:List UInt8→List UInt8} (bd:∀ b,(f b).length=b.length):oB (oA D s f):=by
 refine ⟨by rw [abv]; exact h.1,fun x ad=>?_⟩;unfold oA at ad;obtain ⟨y,av,rfl⟩:=List.mem_map.1 ad;have:=h.2 y av;split
 · exact ⟨this.1,this.2.1,bd _⟩
 · exact this
theorem R6 (D:List cW) (s t:Int) (f:List UInt8→List UInt8):iX (oA D s f) t=(iX D t).map fun x=>if x.1=s then (x.1,x.2.1,f x.2.1) else x:=by
 unfold iX oA;rw [List.find?_map];congr 2
 funext x;simp only [Function.comp];split<;>rfl
theorem Bk {D:List cW} {s:Int} {x:cW} (h:iX D s=some x):x.1=s∧x∈D:=by
 unfold iX at h;have aa:=List.find?_some h;exact ⟨of_decide_eq_true aa,List.mem_of_find?_eq_some h⟩
theorem abw {D:List cW} {s:Int} {x:cW} (h:iX D s=some x):∃ k,D[k]?=some x∧x.1=s∧∀ (j:Nat) (y:cW),j < k→D[j]?=some y→y.1≠s:=by
 unfold iX at h
 induction D with
 | nil=>cases h
 | cons y D bq =>
  rw [List.find?_cons] at h
  by_cases av:y.1=s
  · rw [decide_eq_true av] at h
    simp only [Option.some.injEq] at h
    subst h
    exact ⟨0,rfl,av,fun j y aS=>absurd aS (Nat.not_lt_zero _)⟩
  · rw [decide_eq_false av] at h
    obtain ⟨k,h1,aa,aq⟩:=bq h
    refine ⟨k+1,h1,aa,fun j z aS b'=>?_⟩
    cases j with
    | zero=>simp only [List.getElem?_cons_zero,Option.some.injEq] at b'; subst b'; exact av
    | succ j=>exact aq j z (by omega) (by simpa using b')
theorem abx {D:List cW} {s:Int} {x:cW} {k:Nat} {f:List UInt8→List UInt8} (aI:(D.map (·.1)).Nodup) (ad:D[k]?=some x) (aF:x.1=s):oA D s f=D.set k (x.1,x.2.1,f x.2.1):=by
 unfold oA;apply List.ext_getElem?;intro j;rw [List.getElem?_map,List.getElem?_set];have hk:=(List.getElem?_eq_some_iff.1 ad).1;by_cases aS:k=j
 · subst aS;rw [ad,if_pos rfl,if_pos hk];simp [aF]
 · rw [if_neg aS]
   cases av:D[j]? with
   | none=>rfl
   | some y =>
    simp only [Option.map_some,Option.some.injEq]
    rw [if_neg]
    intro e
    have h1:(D.map (·.1))[k]?=some s:=by rw [List.getElem?_map,ad,←aF]; rfl
    have aa:(D.map (·.1))[j]?=some s:=by rw [List.getElem?_map,av,←e]; rfl
    exact aS ((List.getElem?_inj (by rw [List.length_map]; exact hk) aI).1 (h1.trans aa.symm))
theorem aby {D:List cW} {s:Int} {f:List UInt8→List UInt8} (h:iX D s=none):oA D s f=D:=by
 unfold oA
 conv=>rhs; rw [←List.map_id D]
 apply List.map_congr_left;intro x ad;unfold iX at h;have:=List.find?_eq_none.1 h x ad;rw [if_neg (by simpa using this)];rfl
def ma (x:jb):cW:=(x.shard,x.eQ,x.now)
theorem Kv (D:List jb) (s:Int):fH (D.map fun x=>(x.shard,x.ptr)) s=(D.find? fun x=>decide (x.shard=s)).map (·.ptr):=by
 unfold fH;rw [List.find?_map,Option.map_map];rfl
theorem R7 (D:List jb) (s:Int):iX (D.map ma) s=(D.find? fun x=>decide (x.shard=s)).map ma:=by
 unfold iX;rw [List.find?_map];rfl
theorem abz {D:List jb} {s:Int} {x:cW} (h:iX (D.map ma) s=some x):∃ (k:Nat) (y:jb),D[k]?=some y∧ma y=x∧y.shard=s∧fH (D.map fun x=>(x.shard,x.ptr)) s=some y.ptr:=by
 rw [R7] at h
 cases bd:D.find? fun x=>decide (x.shard=s) with
 | none=>rw [bd] at h; cases h
 | some y =>
  rw [bd] at h
  obtain ⟨k,hk⟩:=List.mem_iff_getElem?.1 (List.mem_of_find?_eq_some bd)
  have aa:=List.find?_some bd
  exact ⟨k,y,hk,by simpa using h,of_decide_eq_true aa,by rw [Kv,bd]; rfl⟩
theorem abA {D:List jb} {s:Int} (h:iX (D.map ma) s=none):fH (D.map fun x=>(x.shard,x.ptr)) s=none:=by
 rw [R7] at h
 cases bd:D.find? fun x=>decide (x.shard=s) with
 | none=>rw [Kv,bd]; rfl
 | some y=>rw [bd] at h; cases h
theorem abB {D:List jb} {k:Nat} {y:jb} {s:Int} {f:List UInt8→List UInt8} (aI:oB (D.map ma)) (hk:D[k]?=some y) (aF:y.shard=s):(D.set k { y with now:=f y.eQ }).map ma=oA (D.map ma) s f:=by
 rw [abx (x:=ma y) aI.1 (by rw [List.getElem?_map,hk]; rfl) aF,List.map_set];rfl
theorem abC {D:List jb} {k:Nat} {y:jb} {b:List UInt8} (hk:D[k]?=some y):((D.set k { y with now:=b }).map fun x=>(x.shard,x.ptr))=D.map fun x=>(x.shard,x.ptr):=by
 rw [List.map_set];apply List.ext_getElem?;intro j;rw [List.getElem?_set];split
 · rename_i h;subst h;split
   · rw [List.getElem?_map,hk]; rfl
   · rw [List.getElem?_eq_none (by omega)]
 · rfl
def qg (c:b1) (w:Int):Bool:=may c && (decide (1≤w) && decide (w≤c.workers))
theorem Gy {c:b1} {w:Int} (h1:may c=true) (aa:1≤w) (aq:w≤c.workers):qg c w=true:=by unfold qg; rw [h1,decide_eq_true aa,decide_eq_true aq]; rfl
theorem Bl {c:b1} {w:Int} (h:may c=false∨w < 1∨c.workers < w):qg c w=false:=by
 unfold qg;rcases h with h|h|h
 · rw [h]; rfl
 · rw [decide_eq_false (by omega:¬ 1≤w)]; simp
 · rw [decide_eq_false (by omega:¬ w≤c.workers)]; simp
theorem Kw {c:b1} {w:Int} (h:qg c w=true):may c=true∧1≤w∧w≤c.workers:=by
 unfold qg at h;simp only [Bool.and_eq_true,decide_eq_true_eq] at h;exact ⟨h.1,h.2.1,h.2.2⟩
def f_ (c:b1) (w:Int):List cW:=(bY c w).map fun s=>(s,fP c s,fP c s)
def pA (c:b1) (s:Int):cW:=(s,fP c s,fP c s)
theorem Gz (c:b1) (w:Int):f_ c w=(bY c w).map (pA c):=rfl
theorem GA (c:b1) (w:Int):(bY c w).Nodup:=by
 unfold bY;refine List.Pairwise.map _ (fun a b h=>?_) ((List.nodup_range (n:=hs c)).filter _);omega
theorem R8 {c:b1} {l:List Int} {k:Nat} {x:Int} (ad:l[k]?=some x):(l.take k).map (pA c)++[(x,fP c x,fP c x)]=(l.take (k+1)).map (pA c):=by
 rw [List.take_add_one,ad,List.map_append]; rfl
theorem abD {c:b1} {l:List Int} (aI:l.Nodup) {k:Nat} {x:Int} (ad:l[k]?=some x) {D:List jb} (iE:D.map ma=(l.take k).map (pA c)):∀ y∈D,y.shard≠x:=by
 intro y av e;have h1:ma y∈(l.take k).map (pA c):=iE▸List.mem_map_of_mem av;obtain ⟨z,b',eY⟩:=List.mem_map.1 h1;have abE:z=x:=(congrArg Prod.fst eY).trans e;obtain ⟨j,aS⟩:=List.mem_iff_getElem?.1 b';rw [List.getElem?_take] at aS;split at aS
 · rename_i kq;rw [abE] at aS;have:=(List.getElem?_inj (List.getElem?_eq_some_iff.1 aS).1 aI).1 (aS.trans ad.symm);omega
 · cases aS
theorem Bm {c:b1} {w s:Int} (h:s∈bY c w):0≤s∧s < (hs c:Int):=by
 unfold bY at h;obtain ⟨k,hk,rfl⟩:=List.mem_map.1 h;have:=List.mem_range.1 (List.mem_filter.1 hk).1;omega
theorem GB {c:b1} (h:may c=true) (w:Int):oB (f_ c w):=by
 refine ⟨?_,fun x ad=>?_⟩
 · have:(f_ c w).map (·.1)=bY c w:=by
    rw [Gz,List.map_map]
    conv=>rhs; rw [←List.map_id (bY c w)]
    rfl
   rw [this]; exact GA c w
 · rw [Gz] at ad;obtain ⟨s,aF,rfl⟩:=List.mem_map.1 ad;obtain ⟨h1,aa⟩:=Bm aF;obtain ⟨aq,_⟩:=R4 h h1 aa;have a6:=RP (Kt h s);have bT:=J1 c s;unfold pA;dsimp only;rw [aq] at bT ⊢;exact ⟨by omega,by omega,rfl⟩
theorem R9 {c:b1} {w s:Int} (h:s∈bY c w):iX (f_ c w) s=some (s,fP c s,fP c s):=by
 rw [Gz];unfold iX;rw [List.find?_map]
 have:(bY c w).find? ((fun x:cW=>decide (x.1=s)) ∘ pA c)=some s:=by
  cases bd:(bY c w).find? ((fun x:cW=>decide (x.1=s)) ∘ pA c) with
  | none=>exact absurd (decide_eq_true rfl) (List.find?_eq_none.1 bd s h)
  | some y =>
   have aa:=List.find?_some bd
   have aq:y=s:=of_decide_eq_true aa
   rw [aq]
 rw [this]; rfl
theorem abF {c:b1} {w s:Int} (h:s∉bY c w):iX (f_ c w) s=none:=by
 cases aO:iX (f_ c w) s with
 | none=>rfl
 | some x =>
  obtain ⟨h1,aa⟩:=Bk aO
  rw [Gz] at aa
  obtain ⟨z,b',rfl⟩:=List.mem_map.1 aa
  exact absurd (h1▸b':s∈bY c w) h
theorem R_ {D:List cW} {s:Int} {x:cW} (h:iX D s=some x):r2 D s=0∧hl D s=x.2.2∧wx D s=decide (x.2.2≠x.2.1):=by
 unfold r2 hl wx; rw [h]; exact ⟨rfl,rfl,rfl⟩
theorem abG {D:List cW} {s:Int} (h:iX D s=none):r2 D s=4∧hl D s=[]∧wx D s=false:=by
 unfold r2 hl wx; rw [h]; exact ⟨rfl,rfl,rfl⟩
theorem R' {c:b1} {w s:Int} (h:s∈bY c w):r2 (f_ c w) s=0∧hl (f_ c w) s=fP c s∧wx (f_ c w) s=false:=by
 obtain ⟨h1,aa,aq⟩:=R_ (R9 h);exact ⟨h1,aa,by rw [aq]; simp⟩
def lR:b1:=⟨[[97],[97,98,99],[98]],[⟨2,[]⟩],2,1,1,1,1,1,1,1,0,8⟩
theorem Sa:qg lR 1=true:=by decide +kernel
theorem abH:bY lR 1=[0]:=by decide +kernel
end Go.ab
namespace Go.aA
open Go Go.ab
structure lo where
 shard:Int
 r:cb
 b:cb
def nX (x:lo):List Value:=[.int .i64 x.shard,x.r.val,x.b.val]
theorem Kx (x:lo):(nX x).length=3:=rfl
theorem abI (x:lo):(nX x).all (·.oneCell')=true:=rfl
def pB (w:World) (F:Nat→Prop) (rows:List lo) (K:List cW):Prop:=cx (fun r e=>r.shard=e.1∧ak dR w F r.r.val e.2.1∧ak dR w F r.b.val e.2.2) rows K
theorem pB.keep {M:Nat→Prop} {w ah:World} {F:Nat→Prop} {rows:List lo} {K:List cW} (h:pB w F rows K) (hm:Mod M w ah) (bO:∀ b,F b→¬ M b):pB ah F rows K:=
 cx.imp (fun _ _ k=>⟨k.1,k.2.1.keep hm bO,k.2.2.keep hm bO⟩) h
theorem pB.mono {w:World} {F F':Nat→Prop} {rows:List lo} {K:List cW} (h:pB w F rows K) (bO:∀ b,F b→F' b):pB w F' rows K:=
 cx.imp (fun _ _ k=>⟨k.1,k.2.1.mono bO,k.2.2.mono bO⟩) h
theorem pB.at {w:World} {F:Nat→Prop} {rows:List lo} {K:List cW} (h:pB w F rows K) {i:Nat} {r:lo} (aB:rows[i]?=some r):∃ e,K[i]?=some e∧r.shard=e.1∧ak dR w F r.r.val e.2.1∧ak dR w F r.b.val e.2.2:=by
 obtain ⟨h1,aa⟩:=cx.get h;have al:=(List.getElem?_eq_some_iff.1 aB).1;exact ⟨_,List.getElem?_eq_getElem (by omega),aa i r _ aB (List.getElem?_eq_getElem (by omega))⟩
theorem cx.set {α β:Type} {Q:α→β→Prop}:∀ {l:List α} {m:List β} (k:Nat) {a:α} {b:β},cx Q l m→Q a b→cx Q (l.set k a) (m.set k b)
 | _,_,_,_,_,.nil,_=>.nil
 | _,_,0,_,_,.cons _ h,mz=>.cons mz h
 | _,_,k+1,_,_,.cons h1 h,mz=>.cons h1 (cx.set k h mz)
section
variable {R F:Nat→Prop} {w:World} {rows:List lo} {K:List cW}
def o3 {R:Nat→Prop} (rows:List lo) (K:List cW):dc R:=⟨fun F w=>pB w F rows K,fun h hm bO _=>h.keep hm bO⟩
theorem abJ {e:TypeId} {x:cb} {v:Value} {s:Int} {xU:List UInt8} (bG:v=x.val) (h:(bA (R:=R) [o3 rows K,bb dR e 1 v xU]).p F w):(o3 (R:=R) (rows++[⟨s,x,x⟩]) (K++[(s,xU,xU)])).p F w:=by
 obtain ⟨gb,cO,h1,aa,aq,a6⟩:=wj h;exact cx.app (pB.mono h1 aq) (.cons ⟨rfl,bG▸(vd aa).mono a6,bG▸(vd aa).mono a6⟩ .nil)
def Bn {R:Nat→Prop} (Bo eI:TypeId) (eB:Nat) (De:Int) (K:List cW):dc R:=nt fun x:Value×List lo=>bA [az eB [x.1,.int .i64 De] Bo,bb nX eI 3 x.1 x.2,o3 x.2 K]
def hT {R:Nat→Prop} (h3 eI u8:TypeId) (cm:Nat) (life:Int) (K:List cW):dc R:=nt fun D:List jb=>wg (D.map ma=K) (abu h3 eI u8 cm life D)
end
end Go.aA
namespace Go.aA
open Go Go.ab
section
variable {R F:Nat→Prop} {w:World}
theorem abK {eI u8:TypeId} {D:List jb} (h:(bA (R:=R) (D.map (gr eI u8))).p F w) {x:jb} (ad:x∈D):∃ mb fJ,ez w x.ptr [mb,fJ] eI∧ak dR w F mb x.eQ∧ak dR w F fJ x.now:=by
 obtain ⟨k,hk⟩:=List.mem_iff_getElem?.1 ad;obtain ⟨fe,h1,aa,_⟩:=h;obtain ⟨⟨mb,fJ⟩,U⟩:=h1 k (gr eI u8 x) (by rw [List.getElem?_map,hk]; rfl);obtain ⟨P4,g1,g2,_⟩:=U;have ea:=g1 0 _ rfl;have q2:=g1 1 _ rfl;have fb:=g1 2 _ rfl;refine ⟨mb,fJ,ea.1,(vd q2).mono fun b U=>?_,(vd fb).mono fun b U=>?_⟩
 · exact (aa k b (g2 1 b U).1.1).1.1
 · exact (aa k b (g2 2 b U).1.1).1.1
theorem GC {h3 eI u8:TypeId} {cm:Nat} {life:Int} {K:List cW} (h:(hT (R:=R) h3 eI u8 cm life K).p F w):∃ (D:List jb) (er:Nat),D.map ma=K∧ez w cm [.map (some er),.int .i64 life] h3∧lO fo l' w er (D.map fun x=>(x.shard,x.ptr))∧∀ x∈D,∃ mb fJ,ez w x.ptr [mb,fJ] eI∧ak dR w F mb x.eQ∧ak dR w F fJ x.now:=by
 obtain ⟨D,iE,er,fe,h1,aa,_⟩:=h;have ea:=h1 0 _ rfl;have q2:=h1 1 _ rfl;have fb:=h1 2 _ rfl;refine ⟨D,er,iE,ea.1,q2.1,fun x ad=>?_⟩;obtain ⟨mb,fJ,bw,cB,d_⟩:=abK fb ad;exact ⟨mb,fJ,bw,cB.mono fun b U=>(aa 2 b U).1.1,d_.mono fun b U=>(aa 2 b U).1.1⟩
theorem Sb {D:List jb} {K:List cW} {s:Int} {x:cW} (iE:D.map ma=K) (h:iX K s=some x):∃ (k:Nat) (y:jb),D[k]?=some y∧ma y=x∧y.shard=s∧fH (D.map fun x=>(x.shard,x.ptr)) s=some y.ptr:=by
 subst iE; exact abz h
theorem Ky {D:List jb} {K:List cW} {s:Int} (iE:D.map ma=K) (h:iX K s=none):fH (D.map fun x=>(x.shard,x.ptr)) s=none:=by
 subst iE; exact abA h
theorem xV {K:List cW} {s:Int} (h:iX K s=none):r2 K s=4∧hl K s=[]∧wx K s=false∧(∀ f,oA K s f=K):=by
 unfold r2 hl wx; rw [h]; exact ⟨rfl,rfl,rfl,fun f=>aby h⟩
theorem Bp {K:List cW} {s:Int} {x:cW} (h:iX K s=some x):r2 K s=0∧hl K s=x.2.2∧wx K s=decide (x.2.2≠x.2.1):=by
 unfold r2 hl wx; rw [h]; exact ⟨rfl,rfl,rfl⟩
theorem Sc {h3 eI u8:TypeId} {cm:Nat} {life:Int} {K:List cW} {s:Int} {x:cW} (h:(hT (R:=R) h3 eI u8 cm life K).p F w) (ad:iX K s=some x):∃ (D:List jb) (k:Nat) (y:jb) (er:Nat),D.map ma=K∧D[k]?=some y∧ma y=x∧y.shard=s∧fH (D.map fun x=>(x.shard,x.ptr)) s=some y.ptr ∧
 (bA (R:=R) [az cm [.map (some er),.int .i64 life] h3,kb fo l' er (D.map fun x=>(x.shard,x.ptr)),bA ((D.take k).map (gr eI u8)),gr eI u8 y,bA ((D.drop (k+1)).map (gr eI u8))]).p F w:=by
 obtain ⟨D,iE,er,FU⟩:=h;obtain ⟨k,y,h1,aa,aq,a6⟩:=Sb iE ad;refine ⟨D,k,y,er,iE,h1,aa,aq,a6,?_⟩;obtain ⟨fe,g1,g2,g3⟩:=FU;have fb:=abr (R:=R) (eI:=eI) (u8:=u8) h1 (fe 2) (g1 2 _ rfl)
 have:Sep (R:=R) [az cm [.map (some er),.int .i64 life] h3,kb fo l' er (D.map fun x=>(x.shard,x.ptr)),bA [bA ((D.take k).map (gr eI u8)),gr eI u8 y,bA ((D.drop (k+1)).map (gr eI u8))]] F w:=by
  refine ⟨fe,fun i A bg=>?_,g2,g3⟩
  match i,bg with
  | 0,bg=>exact g1 0 A bg
  | 1,bg=>exact g1 1 A bg
  | 2,bg =>
   simp only [List.getElem?_cons_succ,List.getElem?_cons_zero,Option.some.injEq] at bg
   subst bg
   exact fb
  | n+3,bg=>simp at bg
 exact Sep.open (L1:=[_,_]) this
theorem Sd {h3 eI u8:TypeId} {cm:Nat} {life:Int} {K:List cW} {D:List jb} {k:Nat} {y:jb} {er:Nat} {s:Int} {f:List UInt8→List UInt8} (iE:D.map ma=K) (eC:oB K) (hk:D[k]?=some y) (Bq:y.shard=s)
 (h:(bA (R:=R) [az cm [.map (some er),.int .i64 life] h3,kb fo l' er (D.map fun x=>(x.shard,x.ptr)),bA ((D.take k).map (gr eI u8)),gr eI u8 { y with now:=f y.eQ },bA ((D.drop (k+1)).map (gr eI u8))]).p F w):(hT (R:=R) h3 eI u8 cm life (oA K s f)).p F w:=by
 subst iE; subst Bq;refine ⟨D.set k { y with now:=f y.eQ },abB eC hk rfl,er,?_⟩;have aa:Sep ([az (R:=R) cm [.map (some er),.int .i64 life] h3,kb fo l' er (D.map fun x=>(x.shard,x.ptr))]++[bA ((D.take k).map (gr eI u8)),gr eI u8 { y with now:=f y.eQ },bA ((D.drop (k+1)).map (gr eI u8))]) F w:=h;have aq:=aa.close;obtain ⟨fe,g1,g2,g3⟩:=aq;refine ⟨fe,fun i A bg=>?_,g2,g3⟩
 match i,bg with
 | 0,bg=>exact g1 0 A bg
 | 1,bg =>
  rw [abC hk] at bg
  exact g1 1 A bg
 | 2,bg =>
  simp only [List.getElem?_cons_succ,List.getElem?_cons_zero,Option.some.injEq] at bg
  subst bg
  exact abt (R:=R) (eI:=eI) (u8:=u8) hk (fe 2) (g1 2 _ rfl)
 | n+3,bg=>simp at bg
theorem Se {h3 eI u8:TypeId} {cm:Nat} {life:Int} {K:List cW} (h:(hT (R:=R) h3 eI u8 cm life K).p F w):∃ (D:List jb) (er:Nat),D.map ma=K∧(bA (R:=R) [az cm [.map (some er),.int .i64 life] h3,kb fo l' er (D.map fun x=>(x.shard,x.ptr)),bA (D.map (gr eI u8))]).p F w:=by
 obtain ⟨D,iE,er,FU⟩:=h;exact ⟨D,er,iE,FU⟩
theorem abL {h3 eI u8:TypeId} {cm:Nat} {life:Int} {K:List cW} {D:List jb} {er:Nat} (iE:D.map ma=K) (h:(bA (R:=R) [az cm [.map (some er),.int .i64 life] h3,kb fo l' er (D.map fun x=>(x.shard,x.ptr)),bA (D.map (gr eI u8))]).p F w):(hT (R:=R) h3 eI u8 cm life K).p F w:=⟨D,iE,er,h⟩
theorem abM {h3 eI u8:TypeId} {cm:Nat} {life:Int} {K:List cW} {D:List jb} {er:Nat} {y:jb} {s:Int} {xU:List UInt8} (iE:D.map ma=K) (av:ma y=(s,xU,xU))
 (h:(bA (R:=R) [az cm [.map (some er),.int .i64 life] h3,kb fo l' er ((D.map fun x=>(x.shard,x.ptr))++[(s,y.ptr)]),bA (D.map (gr eI u8)),gr eI u8 y]).p F w):(hT (R:=R) h3 eI u8 cm life (K++[(s,xU,xU)])).p F w:=by
 have aF:y.shard=s:=congrArg Prod.fst av;refine ⟨D++[y],by rw [List.map_append,iE,List.map_singleton,av],er,?_⟩;have aa:Sep (R:=R) ([az cm [.map (some er),.int .i64 life] h3,kb fo l' er ((D.map fun x=>(x.shard,x.ptr))++[(s,y.ptr)])]++[bA (D.map (gr eI u8)),gr eI u8 y]) F w:=h;obtain ⟨fe,g1,g2,g3⟩:=aa.close;refine ⟨fe,fun i A bg=>?_,g2,g3⟩
 match i,bg with
 | 0,bg=>exact g1 0 A bg
 | 1,bg =>
  rw [List.map_append,List.map_singleton,aF] at bg
  exact g1 1 A bg
 | 2,bg =>
  simp only [List.getElem?_cons_succ,List.getElem?_cons_zero,Option.some.injEq] at bg
  subst bg
  have k:Sep (R:=R) [bA (D.map (gr eI u8)),gr eI u8 y] (fe 2) w:=g1 2 _ rfl
  have cB:Sep (R:=R) [gr eI u8 y,bA (D.map (gr eI u8))] (fe 2) w:=Sep.zB (A:=[bA (D.map (gr eI u8))]) (B:=[gr eI u8 y]) k
  have d_:=(Sep.open (L1:=[gr (R:=R) eI u8 y]) cB)
  have hS:=Sep.zB (A:=[gr (R:=R) eI u8 y]) (B:=D.map (gr eI u8)) d_
  show Sep (R:=R) ((D++[y]).map (gr eI u8)) (fe 2) w
  rw [List.map_append,List.map_singleton]
  exact hS
 | n+3,bg=>simp at bg
theorem abN {h3 eI u8:TypeId} {cm er:Nat} {life:Int} (h:(bA (R:=R) [az cm [.map (some er),.int .i64 life] h3,kb fo l' er []]).p F w):(hT (R:=R) h3 eI u8 cm life []).p F w:=by
 refine ⟨[],rfl,er,?_⟩;obtain ⟨fe,g1,g2,g3⟩:=h;refine ⟨fun i b=>fe i b∧i < 2,fun i A bg=>?_,fun i b U=>g2 i b U.1,fun i j b l5 al aS=>g3 i j b l5 al.1 aS.1⟩
 match i,bg with
 | 0,bg =>
  have:=g1 0 A bg
  simpa using this
 | 1,bg =>
  have:=g1 1 A bg
  simpa using this
 | 2,bg =>
  simp only [List.getElem?_cons_succ,List.getElem?_cons_zero,Option.some.injEq] at bg
  subst bg
  exact ⟨fun _ _=>False,fun i A h=>by simp at h,fun _ _ h=>h.elim,fun _ _ _ _ h=>h.elim⟩
 | n+3,bg=>simp at bg
theorem Kz {D:List jb} {s:Int} (h:∀ x∈D,x.shard≠s):fH (D.map fun x=>(x.shard,x.ptr)) s=none:=by
 rw [Kv,List.find?_eq_none.2]
 · rfl
 · intro x ad;simpa using h x ad
end
section
variable {P:Program} {E:Env} {C:World→Prop} {d:Option Tmp} {ty:TypeId} {pos:String} {af:Array Edge} {gd:Option (Nat×Bool)} {α β:Type} [DecidableEq α] {key:α→Value} {val:β→Value}
theorem aY.Df {t ei h7:TypeId} {x y:Operand} {b:Nat} {m:List (α×β)} {a:α} {z:Value} {u:β} (hk:KeyOk P ei key) (aQ:P.underlying t=some (.map ei h7)) (b':∀ w,(zeroValue h7).run P w=.ok z w) (ad:aC E x=some (.map (some b))) (av:aC E y=some (key a)) (hm:∀ w,C w→lO key val w b m) (ao:fH m a=some u) :
 aY P ⟨d,.lookup t x y false,ty,pos,af,gd⟩ E C (val u):=by
 have h:=aY.PK (d:=d) (ty:=ty) (pos:=pos) (af:=af) (gd:=gd) (val:=val) hk aQ b' ad av hm;rw [ao] at h; exact h
theorem aY.Sf {t ei h7:TypeId} {x y:Operand} {b:Nat} {m:List (α×β)} {a:α} {z:Value} (hk:KeyOk P ei key) (aQ:P.underlying t=some (.map ei h7)) (b':∀ w,(zeroValue h7).run P w=.ok z w) (ad:aC E x=some (.map (some b))) (av:aC E y=some (key a)) (hm:∀ w,C w→lO key val w b m) (ao:fH m a=none) :
 aY P ⟨d,.lookup t x y false,ty,pos,af,gd⟩ E C z:=by
 have h:=aY.PK (d:=d) (ty:=ty) (pos:=pos) (af:=af) (gd:=gd) (val:=val) hk aQ b' ad av hm;rw [ao] at h; exact h
end
end Go.aA
namespace Go.aA
open Go Go.ab
section
variable {P:Program} {E:Env} {C:World→Prop} {d:Option Tmp} {ty:TypeId} {pos:String} {af:Array Edge} {gd:Option (Nat×Bool)}
theorem aY.GD {t e:TypeId} {n sz by_ b off:Nat} {g:Bool} {z:List Value} {x y:Operand} {k:IntKind} {m:Int} (aQ:P.underlying t=some (.array n e)) (he:dX P e=some (g,sz,by_,z)) (ad:aC E x=some (ptr b off)) (av:aC E y=some (.int k m)) (i:Nat) (hm:m=(i:Int)) (al:i < n) :
 aY P ⟨d,.indexAddr t x y,ty,pos,af,gd⟩ E C (ptr b (off+i*sz)):=
 aY.indexAddr ad av fun w=>by
  have a8:(0:Int)≤m∧m < (n:Int):=by omega
  have fw:m.toNat=i:=by omega
  simp [Instr.indexAt,asIntOf,run_underlying aQ,a8,run_sizeOf he,add_lit,ptr,fw,Instr.sureAddr]
end
def sJ (x:Int×Int):List Value:=[.int .i64 x.1,.int .i64 x.2]
theorem Dg (x:Int×Int):(sJ x).length=2:=rfl
theorem abO (x:Int×Int):(sJ x).all (·.oneCell')=true:=rfl
def r3 (w:World) (F:Nat→Prop) (aT:List cc) (N:List jL):Prop:=cx (fun r n=>r.fin=n.1∧ak sJ w F r.e.val n.2) aT N
theorem r3.keep {M:Nat→Prop} {w ah:World} {F:Nat→Prop} {aT:List cc} {N:List jL} (h:r3 w F aT N) (hm:Mod M w ah) (bO:∀ b,F b→¬ M b):r3 ah F aT N:=
 cx.imp (fun _ _ k=>⟨k.1,k.2.keep hm bO⟩) h
theorem r3.mono {w:World} {F F':Nat→Prop} {aT:List cc} {N:List jL} (h:r3 w F aT N) (bO:∀ b,F b→F' b):r3 w F' aT N:=
 cx.imp (fun _ _ k=>⟨k.1,k.2.mono bO⟩) h
theorem r3.at {w:World} {F:Nat→Prop} {aT:List cc} {N:List jL} (h:r3 w F aT N) {i:Nat} {r:cc} (aB:aT[i]?=some r):∃ n,N[i]?=some n∧r.fin=n.1∧ak sJ w F r.e.val n.2:=by
 obtain ⟨h1,aa⟩:=cx.get h;have al:=(List.getElem?_eq_some_iff.1 aB).1;exact ⟨_,List.getElem?_eq_getElem (by omega),aa i r _ aB (List.getElem?_eq_getElem (by omega))⟩
def qh {R:Nat→Prop} (aT:List cc) (N:List jL):dc R:=⟨fun F w=>r3 w F aT N,fun h hm bO _=>h.keep hm bO⟩
theorem Sg {R F:Nat→Prop} {w:World} {e:TypeId} {aT:List cc} {N:List jL} {x:cc} {n:jL} {v:Value} {es:List (Int×Int)} (bG:v=x.e.val) (bd:x.fin=n.1) (aI:es=n.2) (h:(bA (R:=R) [qh aT N,bb sJ e 2 v es]).p F w):(qh (R:=R) (aT++[x]) (N++[n])).p F w:=by
 obtain ⟨gb,cO,h1,aa,aq,a6⟩:=wj h;exact cx.app (r3.mono h1 aq) (.cons ⟨bd,bG▸aI▸(vd aa).mono a6⟩ .nil)
theorem ar.abP {R bB:Nat→Prop} {w0 w:World} {L:List (dc R)} {i:Nat} {aT:List cc} {N:List jL} (h:ar R bB w0 w L) (al:L[i]?=some (qh aT N)):r3 w (aR 0 w.heap.size) aT N:=by
 obtain ⟨F,h1,aa⟩:=h.get al;exact r3.mono h1 fun b U=>⟨Nat.zero_le _,aa b U⟩
def KA {R:Nat→Prop} (ku J2:TypeId) (b:Nat) (fin:Bool) (es:List (Int×Int)):dc R:=nt fun v:Value=>bA [az b [.bool fin,v] ku,bb sJ J2 2 v es]
end Go.aA
namespace Go.ab
open Go.aA
theorem abQ {b:List UInt8} (h:b.length < 4):false=lQ b:=by unfold lQ; exact (decide_eq_false fun k=>k.1 h).symm
theorem abR {b:List UInt8} (h:lQ b=true):4≤b.length:=by unfold lQ at h; have:=(of_decide_eq_true h).1; omega
theorem abS {b:List UInt8} {r:Bool} (h:¬ b.length < 4) (aB:r=(iP b ((b.length:Int)-4) 4==(jj (b.take (b.length-4)):Int))):r=lQ b:=by
 unfold lQ;rw [aB];by_cases k:iP b ((b.length:Int)-4) 4=(jj (b.take (b.length-4)):Int)
 · rw [beq_iff_eq.2 k]; exact (decide_eq_true ⟨h,k⟩).symm
 · rw [beq_eq_false_iff_ne.2 k]; exact (decide_eq_false fun q=>k q.2).symm
def nY (b:List UInt8) (c:Nat) (eo:Int×Bool) (z:Nat) (es:List (Int×Int)) (s:Int×Bool):Prop:=nW b c eo=(es++(nW b z s).1,(nW b z s).2)
theorem nY.start (b:List UInt8) (c:Nat) (s:Int×Bool):nY b c s c [] s:=by unfold nY; simp
theorem nY.step {b:List UInt8} {c z:Nat} {eo:Int×Bool} {a:Int} {es:List (Int×Int)} {e:Int×Int} {iz:Int×Bool} (h:nY b c eo (z+1) es (a,false)) (he:xR b (a,false)=(e,iz)):nY b c eo z (es++[e]) iz:=by
 unfold nY at *;rw [h]
 conv=>lhs; unfold nW
 rw [if_neg (by simp),he];simp
theorem abT {b:List UInt8} {s:Int×Bool} (h:s.2=true):∀ n,nW b n s=([],s)
 | 0=>rfl
 | n+1=>by unfold nW; rw [if_pos h]
theorem nY.bad {b:List UInt8} {c z:Nat} {eo:Int×Bool} {a:Int} {es:List (Int×Int)} (h:nY b c eo z es (a,true)):nW b c eo=(es,(a,true)):=by
 unfold nY at h;rw [h,abT rfl]; simp
theorem nY.fin {b:List UInt8} {c:Nat} {eo:Int×Bool} {es:List (Int×Int)} {s:Int×Bool} (h:nY b c eo 0 es s):nW b c eo=(es,s):=by
 unfold nY at h;rw [h]; simp [nW]
def qi (b:List UInt8) (c:Nat) (eo:Int×Bool) (i:Nat) (N:List jL) (s:Int×Bool):Prop:=jU b c eo=(N++(jU b (c-i) s).1,(jU b (c-i) s).2)
theorem qi.start (b:List UInt8) (c:Nat) (s:Int×Bool):qi b c s 0 [] s:=by unfold qi; simp
theorem qi.step {b:List UInt8} {c i:Nat} {eo:Int×Bool} {a:Int} {N:List jL} {e:jL} {iz:Int×Bool} (h:qi b c eo i N (a,false)) (al:i < c) (he:xS b (a,false)=(e,iz)):qi b c eo (i+1) (N++[e]) iz:=by
 unfold qi at *;rw [h];obtain ⟨k,hk⟩:∃ k,c-i=k+1:=⟨c-i-1,by omega⟩;rw [hk,show c-(i+1)=k from by omega]
 conv=>lhs; unfold jU
 rw [if_neg (by simp),he];simp
theorem abU {b:List UInt8} {s:Int×Bool} (h:s.2=true):∀ n,jU b n s=([],s)
 | 0=>rfl
 | n+1=>by unfold jU; rw [if_pos h]
theorem qi.bad {b:List UInt8} {c i:Nat} {eo:Int×Bool} {a:Int} {N:List jL} (h:qi b c eo i N (a,true)):jU b c eo=(N,(a,true)):=by
 unfold qi at h;rw [h,abU rfl]; simp
theorem qi.fin {b:List UInt8} {c i:Nat} {eo:Int×Bool} {N:List jL} {s:Int×Bool} (h:qi b c eo i N s) (al:c≤i):jU b c eo=(N,s):=by
 unfold qi at h;rw [h,show c-i=0 from by omega]; simp [jU]
theorem abV {b:List UInt8} {a hi a2 cJ cK:Int} {q ea q2:Bool} (h1:(cJ,(hi,ea))=dn b 4 (a,q)) (aa:(cK,(a2,q2))=dn b 2 (hi,ea)):xR b (a,q)=((cJ,cK),(a2,q2)):=by
 unfold xR; rw [←h1]; dsimp only; rw [←aa]
theorem Sh {b:List UInt8} {a hi a2 a3 cJ cK:Int} {q ea q2 fb:Bool} {es:List (Int×Int)} (h1:(cJ,(hi,ea))=dn b 1 (a,q)) (aa:(cK,(a2,q2))=dn b 2 (hi,ea)) (aq:nW b cK.toNat (a2,q2)=(es,(a3,fb))) {f:Bool} (bd:f=decide (cJ=1)):xS b (a,q)=((f,es),(a3,fb)):=by
 unfold xS; rw [←h1]; dsimp only; rw [←aa]; dsimp only; rw [aq,bd]
theorem GF {N:List jL} {f:Nat} {n d:Int} {a:ag} {out:List ag} (h:n < 0∨n≥N.length∨d > 12∨out.length > 60):hb N (f+1) n d a out=(out,false):=by unfold hb; rw [if_pos h]
theorem abW {N:List jL} {f:Nat} {n d:Int} {a:ag} {out:List ag} {x:jL} (h:¬ (n < 0∨n≥N.length∨d > 12∨out.length > 60)) (ad:N[n.toNat]?=some x):hb N (f+1) n d a out=ny (fun out e=>hb N f e.2 (d+1) (a++eX e.1) out) (if x.1=true then out++[a] else out) x.2:=by
 conv=>lhs; unfold hb
 rw [if_neg h,ad]
theorem xW (g:List ag→Int×Int→List ag×Bool) (out:List ag) {l:List (Int×Int)} {k:Nat} (hk:l.length≤k):ny g out (l.drop k)=(out,true):=by
 rw [List.drop_of_length_le hk]; rfl
theorem KB {α:Type} {l:List α} {k:Nat} {x:α} (ad:l[k]?=some x):l.drop k=x::l.drop (k+1):=by
 obtain ⟨h,rfl⟩:=List.getElem?_eq_some_iff.1 ad;exact List.drop_eq_getElem_cons h
theorem xX {g:List ag→Int×Int→List ag×Bool} {out:List ag} {l:List (Int×Int)} {k:Nat} {e:Int×Int} (ad:l[k]?=some e) (h:e.1 > 1114111):ny g out (l.drop k)=(out,false):=by
 rw [KB ad]; unfold ny; rw [if_pos h]
theorem xY {g:List ag→Int×Int→List ag×Bool} {out:List ag} {l:List (Int×Int)} {k:Nat} {e:Int×Int} (ad:l[k]?=some e) (h:¬ e.1 > 1114111) (aa:(g out e).2=false∨(g out e).1.length=out.length):ny g out (l.drop k)=((g out e).1,false):=by
 rw [KB ad]; unfold ny; rw [if_neg h,if_pos aa]
theorem abX {g:List ag→Int×Int→List ag×Bool} {out:List ag} {l:List (Int×Int)} {k:Nat} {e:Int×Int} (ad:l[k]?=some e) (h:¬ e.1 > 1114111) (aa:¬ ((g out e).2=false∨(g out e).1.length=out.length)):ny g out (l.drop k)=ny g (g out e).1 (l.drop (k+1)):=by
 rw [KB ad]; conv=>lhs; unfold ny
 rw [if_neg h,if_neg aa]
def GG (N:List jL):Prop:=N.length≤65536∧∀ x∈N,x.2.length≤65536∧∀ e∈x.2,0≤e.1∧e.1≤4294967295∧0≤e.2∧e.2≤65535
theorem Si {N:List jL} (h:GG N) (a':N.length < 65536) {f:Bool} {es:List (Int×Int)} (he:es.length≤65536∧∀ e∈es,0≤e.1∧e.1≤4294967295∧0≤e.2∧e.2≤65535):GG (N++[(f,es)]):=by
 refine ⟨by rw [List.length_append]; simp only [List.length_cons,List.length_nil]; omega,fun x ad=>?_⟩;rcases List.mem_append.1 ad with ad|ad
 · exact h.2 x ad
 · rw [List.mem_singleton] at ad; subst ad; exact he
theorem Sj {b:List UInt8} (h:(hj b).1≠[]):(gy b).2=0:=by
 have h1:=(Bj b).1;by_cases aa:(hj b).2=0
 · exact h1.symm.trans aa
 · exact absurd (aa4 aa) h
theorem abY {b:List UInt8} (h:(hj b).1≠[]):eD (gy b).1=0∧(hj b).1=gI (gy b).1:=
 (Bj b).2 ((Bj b).1.trans (Sj h))
end Go.ab
namespace Go.ab
open Go.aA
def mP (q:List Int) (f:Nat→Int) (r:Int):Nat→Int
 | 0=>f 0+1
 | i+1=>min (min (f (i+1)+1) (mP q f r i+1)) (f i+if q[i]?=some r then 0 else 1)
def k3 (q:List Int) (p:List Int):Nat→Int:=p.foldl (mP q) fun i=>(i:Int)
theorem Sk (q p:List Int) (r:Int):k3 q (p++[r])=mP q (k3 q p) r:=by unfold k3; rw [List.foldl_append]; rfl
def GH (q p:List Int):Int:=k3 q p q.length
structure oC (f:Nat→Int):Prop where
 pos:∀ i,0≤f i
 one:∀ i,f (i+1)≤f i+1∧f i≤f (i+1)+1
theorem abZ {q:List Int} {f:Nat→Int} {r:Int} (h:oC f):∀ i,mP q f r i≤f i+1
 | 0=>Int.le_refl _
 | i+1=>by unfold mP; omega
theorem step_pos {q:List Int} {f:Nat→Int} {r:Int} (h:oC f):∀ i,0≤mP q f r i
 | 0=>by have:=h.pos 0; unfold mP; omega
 | i+1=>by
  have h1:=h.pos (i+1); have aa:=h.pos i; have aq:=step_pos (q:=q) (r:=r) h i
  unfold mP; split<;>omega
theorem oC.step {q : List Int} {f : Nat → Int} {r : Int} (h : oC f) : oC (mP q f r) := by
  refine ⟨step_pos h, fun i => ⟨by conv => lhs; unfold mP
                                   omega, ?_⟩⟩
  have h1 := abZ (q := q) (r := r) h i;have aa := h.one i;show mP q f r i ≤ (min (min (f (i + 1) + 1) (mP q f r i + 1)) (f i + if q[i]? = some r then 0 else 1)) + 1;split <;> omega
theorem oC.id:oC fun i=>(i:Int):=⟨fun i=>by omega,fun i=>by constructor<;>omega⟩
theorem ab0 (q:List Int):∀ p:List Int,oC (k3 q p):=by
 intro p;unfold k3
 have:∀ (p:List Int) (f:Nat→Int),oC f→oC (p.foldl (mP q) f):=by
  intro p
  induction p with
  | nil=>intro f h; exact h
  | cons r p bq=>intro f h; exact bq _ h.step
 exact this p _ oC.id
theorem KC {f:Nat→Int} (h:oC f):∀ (i d:Nat),f (i+d)≤f i+d∧f i≤f (i+d)+d
 | i,0=>by simp
 | i,d+1=>by
  have h1:=KC h i d
  have aa:=h.one (i+d)
  rw [show i+(d+1)=i+d+1 from by omega]
  omega
theorem KD {f:Nat→Int} (h:oC f) (i j:Nat):f i≤f j+max ((i:Int)-j) ((j:Int)-i):=by
 rcases Nat.le_total i j with l5|l5
 · have:=(KC h i (j-i)).2;rw [show i+(j-i)=j from by omega] at this;omega
 · have:=(KC h j (i-j)).1;rw [show j+(i-j)=i from by omega] at this;omega
def ir (k:Int) (f:Nat→Int) (i:Nat):Int:=min (f i) (k+1)
theorem oC.cap {f:Nat→Int} {k:Int} (hk:0≤k) (h:oC f):oC (ir k f):=⟨fun i=>by have:=h.pos i; unfold ir; omega,fun i=>by have:=h.one i; unfold ir; omega⟩
def e0 (k:Int) (q:List Int) (f:Nat→Int) (r:Int):Nat→Int
 | 0=>min (f 0+1) (k+1)
 | i+1=>min (min (min (f (i+1)+1) (e0 k q f r i+1)) (f i+if q[i]?=some r then 0 else 1)) (k+1)
theorem Sl (k:Int) (q:List Int) (f:Nat→Int) (r:Int):∀ i,e0 k q (ir k f) r i=ir k (mP q f r) i
 | 0=>by unfold e0 ir mP; omega
 | i+1=>by
  have bq:=Sl k q f r i
  show min (min (min (ir k f (i+1)+1) (e0 k q (ir k f) r i+1)) (ir k f i+if q[i]?=some r then 0 else 1)) (k+1)=min (min (min (f (i+1)+1) (mP q f r i+1)) (f i+if q[i]?=some r then 0 else 1)) (k+1)
  rw [bq]
  unfold ir
  split<;>omega
structure Pos where
 at_:Int
 cd:Int
deriving DecidableEq
def lS (n:Nat) (k:Int) (f:Nat→Int) (j:Nat):Bool:=(List.range n).any fun (i:Nat)=>decide (f i < f j) && decide (max ((i:Int)-(j:Int)) ((j:Int)-(i:Int))≤f j-f i)
def e6 (n:Nat) (k:Int) (f:Nat→Int):List Pos:=((List.range n).filter fun (j:Nat)=>decide (f j≤k) && !lS n k f j).map fun (j:Nat)=>Pos.mk (j:Int) (f j)
def dg (n:Nat) (k:Int) (s:List Pos) (i:Nat):Int:=s.foldl (fun (a:Int) (p:Pos)=>if (0≤p.at_∧p.at_≤(n:Int)∧0≤p.cd∧p.cd≤k)∧max ((i:Int)-p.at_) (p.at_-(i:Int))≤k then min a (p.cd+max ((i:Int)-p.at_) (p.at_-(i:Int))) else a) (k+1)
theorem GI {α:Type} (g:α→Option Int):∀ (l:List α) (a:Int),l.foldl (fun a p=>match g p with|some x=>min a x|none=>a) a≤a
 | [],a=>Int.le_refl _
 | p::l,a=>by
  rw [List.foldl_cons]
  have:=GI g l (match g p with|some x=>min a x|none=>a)
  cases h:g p with
  | none=>rw [h] at this; exact this
  | some x=>rw [h] at this; simp only at this ⊢; omega
theorem Sm {α:Type} (g:α→Option Int):∀ (l:List α) (a x:Int) (p:α),p∈l→g p=some x→l.foldl (fun a p=>match g p with|some x=>min a x|none=>a) a≤x
 | q::l,a,x,p,hp,ad=>by
  rw [List.foldl_cons]
  rcases List.mem_cons.1 hp with rfl|hp
  · have:=GI g l (match g p with|some x=>min a x|none=>a)
    rw [ad] at this ⊢; simp only at this ⊢; omega
  · exact Sm g l _ x p hp ad
theorem KE {α:Type} (g:α→Option Int) (m:Int):∀ (l:List α) (a:Int),m≤a→(∀ p∈l,∀ x,g p=some x→m≤x)→m≤l.foldl (fun a p=>match g p with|some x=>min a x|none=>a) a
 | [],a,h,_=>h
 | p::l,a,h,a'=>by
  rw [List.foldl_cons]
  refine KE g m l _ ?_ fun q dL=>a' q (by simp [dL])
  cases aO:g p with
  | none=>exact h
  | some x=>have:=a' p (by simp) x aO; simp only; omega
def wy (n:Nat) (k:Int) (i:Nat) (p:Pos):Option Int:=if (0≤p.at_∧p.at_≤(n:Int)∧0≤p.cd∧p.cd≤k)∧max ((i:Int)-p.at_) (p.at_-(i:Int))≤k then some (p.cd+max ((i:Int)-p.at_) (p.at_-(i:Int))) else none
theorem Sn (n:Nat) (k:Int) (s:List Pos) (i:Nat):dg n k s i=s.foldl (fun a p=>match wy n k i p with|some x=>min a x|none=>a) (k+1):=by
 unfold dg;congr 1
 funext a p;unfold wy;split<;>rfl
theorem Sp {n:Nat} {k:Int} {f:Nat→Int} {p:Pos}:p∈e6 n k f↔∃ j,j < n∧f j≤k∧lS n k f j=false∧p=⟨(j:Int),f j⟩:=by
 unfold e6;simp only [List.mem_map,List.mem_filter,List.mem_range,Bool.and_eq_true,decide_eq_true_eq,Bool.not_eq_true'];constructor
 · rintro ⟨j,⟨h1,aa,aq⟩,rfl⟩; exact ⟨j,h1,aa,aq,rfl⟩
 · rintro ⟨j,h1,aa,aq,rfl⟩; exact ⟨j,⟨h1,aa,aq⟩,rfl⟩
theorem Sq {n:Nat} {k:Int} {f:Nat→Int} (h:oC f):∀ (m i:Nat),f i≤m→i < n→∃ j,j < n∧lS n k f j=false∧f j+max ((i:Int)-j) ((j:Int)-i)=f i
 | 0,i,hm,al=>by
  refine ⟨i,al,?_,by omega⟩
  unfold lS
  rw [List.any_eq_false]
  intro j aS
  have:=h.pos j
  simp only [Bool.and_eq_true,decide_eq_true_eq,not_and]
  intro gE; omega
 | m+1,i,hm,al=>by
  by_cases a':lS n k f i=true
  · unfold lS at a'
    rw [List.any_eq_true] at a'
    obtain ⟨j,aS,an⟩:=a'
    simp only [Bool.and_eq_true,decide_eq_true_eq] at an
    have ab1:=List.mem_range.1 aS
    have h1:=KD h i j
    obtain ⟨t,aQ,ab2,akt⟩:=Sq (k:=k) h m j (by omega) ab1
    refine ⟨t,aQ,ab2,?_⟩
    have aa:=KD h i t
    omega
  · exact ⟨i,al,by simpa using a',by omega⟩
theorem ab3 {n:Nat} {k:Int} {f:Nat→Int} (hk:0≤k) (h:oC f) {i:Nat} (al:i < n+1):dg n k (e6 (n+1) k f) i=ir k f i:=by
 rw [Sn]
 have xi:ir k f i≤(e6 (n+1) k f).foldl (fun a p=>match wy n k i p with|some x=>min a x|none=>a) (k+1):=by
  refine KE _ _ _ _ (by unfold ir; omega) fun p hp x ad=>?_
  obtain ⟨j,h1,aa,aq,rfl⟩:=Sp.1 hp
  unfold wy at ad
  split at ad
  · cases ad
    have:=KD h i j
    unfold ir; simp only; omega
  · cases ad
 have hle:(e6 (n+1) k f).foldl (fun a p=>match wy n k i p with|some x=>min a x|none=>a) (k+1)≤ir k f i:=by
  by_cases an:f i≤k
  · obtain ⟨j,h1,aa,aq⟩:=Sq (n:=n+1) (k:=k) h (f i).toNat i (by omega) al
    have hp:=h.pos j
    have:=Sm (wy n k i) (e6 (n+1) k f) (k+1) (f i) ⟨(j:Int),f j⟩ (Sp.2 ⟨j,h1,by omega,aa,rfl⟩) (by
     unfold wy
     rw [if_pos (by simp only; omega)]
     simp only
     rw [aq])
    unfold ir; omega
  · have:=GI (wy n k i) (e6 (n+1) k f) (k+1)
    unfold ir; omega
 omega
theorem ab4 {n:Nat} {k:Int} (f:Nat→Int):e6 n k (ir k f)=e6 n k f:=by
 unfold e6
 have bd:∀ j,(decide (ir k f j≤k) && !lS n k (ir k f) j)=(decide (f j≤k) && !lS n k f j):=by
  intro j
  by_cases aS:f j≤k
  · have fw:ir k f j=f j:=by unfold ir; omega
    have jh:lS n k (ir k f) j=lS n k f j:=by
     unfold lS
     refine List.any_congr rfl fun i=>?_
     rw [fw]
     by_cases al:f i≤k
     · rw [show ir k f i=f i from by unfold ir; omega]
     · rw [show decide (ir k f i < f j)=false from decide_eq_false (by unfold ir; omega),show decide (f i < f j)=false from decide_eq_false (by omega),Bool.false_and,Bool.false_and]
    rw [fw,jh]
  · rw [show decide (ir k f j≤k)=false from decide_eq_false (by unfold ir; omega),show decide (f j≤k)=false from decide_eq_false aS]
    rfl
 rw [List.filter_congr fun j _=>bd j];refine List.map_congr_left fun j aS=>?_
 have:=(List.mem_filter.1 aS).2;simp only [Bool.and_eq_true,decide_eq_true_eq] at this;rw [show ir k f j=f j from by unfold ir; omega]
def eN (q:List Int) (k:Int) (p:List Int):List Pos:=e6 (q.length+1) k (k3 q p)
theorem Dh {q:List Int} {k:Int} (hk:0≤k) (p:List Int) {i:Nat} (al:i < q.length+1):dg q.length k (eN q k p) i=ir k (k3 q p) i:=ab3 hk (ab0 q p) al
theorem ab5 {q:List Int} {k:Int} (hk:0≤k):eN q k []=[⟨0,0⟩]:=by
 unfold eN e6
 have bd:∀ j∈List.range (q.length+1),(decide (k3 q [] j≤k) && !lS (q.length+1) k (k3 q []) j)=decide (j=0):=by
  intro j aS
  by_cases a8:j=0
  · subst a8
    have:lS (q.length+1) k (k3 q []) 0=false:=by
     unfold lS
     rw [List.any_eq_false]
     intro i al
     simp only [Bool.and_eq_true,decide_eq_true_eq,not_and]
     intro gE
     have:((i:Nat):Int) < ((0:Nat):Int):=gE
     omega
    rw [this]
    have:k3 q [] 0=0:=rfl
    rw [this]
    simp [hk]
  · have:lS (q.length+1) k (k3 q []) j=true:=by
     unfold lS
     rw [List.any_eq_true]
     refine ⟨0,by simp,?_⟩
     simp only [Bool.and_eq_true,decide_eq_true_eq]
     have i7:k3 q [] 0=0:=rfl
     have ab6:k3 q [] j=(j:Int):=rfl
     rw [i7,ab6]
     omega
    rw [this]
    simp [a8]
 rw [List.filter_congr bd]
 have:(List.range (q.length+1)).filter (fun j=>decide (j=0))=[0]:=by
  rw [List.range_succ_eq_map,List.filter_cons_of_pos (by simp)]
  congr 1
  rw [List.filter_eq_nil_iff]
  intro a ao
  obtain ⟨b,_,rfl⟩:=List.mem_map.1 ao
  simp
 rw [this];rfl
theorem Sr {q:List Int} {k:Int} (hk:0≤k) (p:List Int) (r:Int):e6 (q.length+1) k (e0 k q (dg q.length k (eN q k p)) r)=eN q k (p++[r]):=by
 unfold eN;rw [Sk,←ab4 (mP q (k3 q p) r)]
 have an:∀ i,i < q.length+1→e0 k q (dg q.length k (eN q k p)) r i=ir k (mP q (k3 q p) r) i:=by
  intro i al
  rw [←Sl]
  have:∀ i,i < q.length+1→e0 k q (dg q.length k (eN q k p)) r i=e0 k q (ir k (k3 q p)) r i:=by
   intro i
   induction i with
   | zero=>intro al; unfold e0; rw [Dh hk p al]
   | succ i bq =>
    intro al
    show min (min (min (dg q.length k (eN q k p) (i+1)+1) (e0 k q (dg q.length k (eN q k p)) r i+1)) (dg q.length k (eN q k p) i+if q[i]?=some r then 0 else 1)) (k+1)=min (min (min (ir k (k3 q p) (i+1)+1) (e0 k q (ir k (k3 q p)) r i+1)) (ir k (k3 q p) i+if q[i]?=some r then 0 else 1)) (k+1)
    rw [bq (by omega),Dh hk p al,Dh hk p (by omega:i < q.length+1)]
  exact this i al
 exact ab7 an
where
 ab7 {n:Nat} {k:Int} {f g:Nat→Int} (h:∀ i,i < n→f i=g i):e6 n k f=e6 n k g:=by
  unfold e6
  have a':∀ j,j < n→lS n k f j=lS n k g j:=by
   intro j aS
   unfold lS
   rw [Bool.eq_iff_iff,List.any_eq_true,List.any_eq_true]
   constructor
   · rintro ⟨i,al,an⟩
     refine ⟨i,al,?_⟩
     rw [←h i (List.mem_range.1 al),←h j aS]; exact an
   · rintro ⟨i,al,an⟩
     refine ⟨i,al,?_⟩
     rw [h i (List.mem_range.1 al),h j aS]; exact an
  rw [List.filter_congr fun j aS=>by rw [h j (List.mem_range.1 aS),a' j (List.mem_range.1 aS)]]
  refine List.map_congr_left fun j aS=>?_
  have:=List.mem_range.1 (List.mem_filter.1 aS).1
  rw [h j this]
theorem Ss {q:List Int} {f:Nat→Int} {r m:Int} (h:∀ i,i < q.length+1→m≤f i):∀ i,i < q.length+1→m≤mP q f r i
 | 0,al=>by have:=h 0 al; unfold mP; omega
 | i+1,al=>by
  have h1:=h (i+1) al; have aa:=h i (by omega); have aq:=Ss (r:=r) h i (by omega)
  unfold mP; split<;>omega
theorem ab8 {q:List Int} {k:Int} (hk:0≤k) {p:List Int} (h:eN q k p=[]):∀ i,i < q.length+1→k+1≤k3 q p i:=by
 intro i al;have:=Dh hk p al;rw [h] at this;have e:dg q.length k [] i=k+1:=rfl;rw [e] at this;unfold ir at this; omega
theorem ab9 {q:List Int} {k:Int} {p:List Int} (h:∀ i,i < q.length+1→k+1≤k3 q p i):∀ (u:List Int),k+1≤GH q (p++u):=by
 have key:∀ (u p:List Int),(∀ i,i < q.length+1→k+1≤k3 q p i)→∀ i,i < q.length+1→k+1≤k3 q (p++u) i:=by
  intro u
  induction u with
  | nil=>intro p h; simpa using h
  | cons r u bq =>
   intro p h
   have:=bq (p++[r]) (by rw [Sk]; exact Ss h)
   rw [List.append_assoc] at this
   exact this
 intro u;exact key u p h q.length (by omega)
theorem ab_ {q:List Int} {k:Int} (hk:0≤k) (p:List Int):dg q.length k (eN q k p) q.length=min (GH q p) (k+1):=Dh hk p (by omega)
end Go.ab
namespace Go.ab
open Go.aA
def ke (x:Pos):List Value:=[.int .i64 x.at_,.int .i64 x.cd]
theorem St (x:Pos):(ke x).length=2:=rfl
theorem ab' (x:Pos):(ke x).all (·.oneCell')=true:=rfl
def gJ (n:Nat) (f:Nat→Int):List Int:=(List.range (n+1)).map f
theorem GJ (n:Nat) (f:Nat→Int):(gJ n f).length=n+1:=by simp [gJ]
theorem qj {n:Nat} {f:Nat→Int} {i:Nat} {x:Int} (h:(gJ n f)[i]?=some x):x=f i∧i < n+1:=by
 obtain ⟨al,h1⟩:=List.getElem?_eq_some_iff.1 h;rw [GJ] at al;unfold gJ at h;rw [List.getElem?_map,List.getElem?_range al] at h;exact ⟨by simpa using h.symm,al⟩
theorem Di {n:Nat} {f g:Nat→Int} (h:∀ i,i < n+1→f i=g i):gJ n f=gJ n g:=by
 unfold gJ;exact List.map_congr_left fun i al=>h i (List.mem_range.1 al)
theorem GK {n:Nat} {f g:Nat→Int} {i:Nat} {x:Int} (al:i < n+1) (ad:x=g i) (h:∀ j,j < n+1→j≠i→f j=g j):(gJ n f).set i x=gJ n g:=by
 refine List.ext_getElem? fun j=>?_
 unfold gJ;rw [List.getElem?_set];split
 · rename_i e; subst e;rw [if_pos (by simp; exact al),List.getElem?_map,List.getElem?_range al,ad]; rfl
 · rename_i cA;by_cases aS:j < n+1
   · rw [List.getElem?_map,List.getElem?_map,List.getElem?_range aS];simp [h j aS (fun e=>cA e.symm)]
   · rw [List.getElem?_eq_none (by simp; omega),List.getElem?_eq_none (by simp; omega)]
theorem aca (n:Nat) (k:Int):List.replicate (n+1) (0:Int)=gJ n fun j=>if j < 0 then k+1 else 0:=by
 refine List.ext_getElem (by simp [gJ]) fun i h1 aa=>?_
 simp [gJ]
theorem acb {n i:Nat} {k:Int} {l:List Int} (h:l=gJ n fun j=>if j < i then k+1 else 0) (al:i < n+1):l.set i (k+1)=gJ n fun j=>if j < i+1 then k+1 else 0:=by
 rw [h];refine GK al (by simp) fun j aS cA=>?_
 by_cases fl:j < i
 · rw [if_pos fl,if_pos (by omega)]
 · rw [if_neg fl,if_neg (by omega)]
theorem acd {n i:Nat} {k:Int} {l:List Int} (h:l=gJ n fun j=>if j < i then k+1 else 0) (al:n+1≤i):l=gJ n (dg n k []):=by
 rw [h];refine Di fun j aS=>?_
 rw [if_pos (by omega)]; rfl
theorem ace (n:Nat) (k:Int) (s:List Pos) (p:Pos) (x:Nat):dg n k (s++[p]) x=if (0≤p.at_∧p.at_≤(n:Int)∧0≤p.cd∧p.cd≤k)∧max ((x:Int)-p.at_) (p.at_-(x:Int))≤k then min (dg n k s x) (p.cd+max ((x:Int)-p.at_) (p.at_-(x:Int))) else dg n k s x:=by
 unfold dg; rw [List.foldl_append]; rfl
theorem GL {n:Nat} {k:Int} {s:List Pos} {j:Nat} {p:Pos} (hp:s[j]?=some p) (x:Nat):dg n k (s.take (j+1)) x=if (0≤p.at_∧p.at_≤(n:Int)∧0≤p.cd∧p.cd≤k)∧max ((x:Int)-p.at_) (p.at_-(x:Int))≤k then min (dg n k (s.take j) x) (p.cd+max ((x:Int)-p.at_) (p.at_-(x:Int))) else dg n k (s.take j) x:=by
 rw [List.take_add_one,hp]; exact ace n k _ p x
def r4 (n:Nat) (k:Int) (s:List Pos) (j:Nat) (i:Int) (x:Nat):Int:=if (x:Int) < i then dg n k (s.take (j+1)) x else dg n k (s.take j) x
theorem acf {n:Nat} {k:Int} {s:List Pos} {j:Nat} {p:Pos} (hp:s[j]?=some p) (h:p.at_ < 0∨p.at_ > (n:Int)∨p.cd < 0∨p.cd > k):gJ n (dg n k (s.take j))=gJ n (dg n k (s.take (j+1))):=by
 refine Di fun x _=>?_
 rw [GL hp,if_neg (by omega)]
theorem acg {n:Nat} {k:Int} {s:List Pos} {j:Nat} {p:Pos} (hp:s[j]?=some p) {i:Int} (al:i=max (p.at_-k) 0):gJ n (dg n k (s.take j))=gJ n (r4 n k s j i):=by
 refine Di fun x _=>?_
 unfold r4;split
 · rw [GL hp,if_neg (by omega)]
 · rfl
theorem ach {n:Nat} {k:Int} {s:List Pos} {j:Nat} {p:Pos} (hp:s[j]?=some p) {i:Int} (a8:0≤i) (zw:i≤(n:Int)) (bG:0≤p.at_∧p.at_≤(n:Int)∧0≤p.cd∧p.cd≤k) (h1:p.at_-k≤i) (aa:i≤p.at_+k) {x:Int} (ad:(gJ n (r4 n k s j i))[i.toNat]?=some x) :
 (gJ n (r4 n k s j i)).set i.toNat (min x (p.cd+max (i-p.at_) (p.at_-i)))=gJ n (r4 n k s j (i+1)):=by
 obtain ⟨zC,gE⟩:=qj ad;have al:((i.toNat:Nat):Int)=i:=(by omega);refine GK gE ?_ fun y av cA=>?_
 · rw [zC];unfold r4;rw [if_neg (by omega),if_pos (by omega),GL hp,if_pos ⟨bG,by omega⟩,al]
 · unfold r4;by_cases h:(y:Int) < i
   · rw [if_pos h,if_pos (by omega)]
   · rw [if_neg h,if_neg (by omega)]
theorem aci {n:Nat} {k:Int} {s:List Pos} {j:Nat} {p:Pos} (hp:s[j]?=some p) {i:Int} (h:i > min (p.at_+k) (n:Int)):gJ n (r4 n k s j i)=gJ n (dg n k (s.take (j+1))):=by
 refine Di fun x ad=>?_
 unfold r4;split
 · rfl
 · rw [GL hp,if_neg (by omega)]
theorem acj {n:Nat} {k:Int} {s:List Pos} {j:Nat} {l:List Int} (h:l=gJ n (dg n k (s.take j))) (aS:s.length≤j):l=gJ n (dg n k s):=by
 rw [h,List.take_of_length_le aS]
theorem wz {n:Nat} {k:Int} (hk:0≤k) (s:List Pos) (x:Nat):0≤dg n k s x∧dg n k s x≤k+1:=by
 rw [Sn];refine ⟨KE _ _ _ _ (by omega) fun p hp y av=>?_,GI _ _ _⟩;unfold wy at av;split at av
 · cases av; omega
 · cases av
theorem ack {n:Nat} {k:Int} {s:List Pos} {j:Nat} {i:Int} {x:Nat} (hk:0≤k):0≤r4 n k s j i x∧r4 n k s j i x≤k+1:=by
 unfold r4; split<;>exact wz hk _ _
def pC (n:Nat) (f:Nat→Int) (j:Nat) (i:Int):Bool:=(List.range n).any fun (x:Nat)=>(decide (f x < f j) && decide (max ((x:Int)-(j:Int)) ((j:Int)-(x:Int))≤f j-f x)) && decide ((x:Int) < i)
theorem acm {n:Nat} {f:Nat→Int} {j:Nat} {k i:Int} (hp:∀ x,0≤f x) (aS:f j≤k) (al:i=max ((j:Int)-k) 0):false=pC n f j i:=by
 symm; unfold pC;rw [List.any_eq_false];intro x ad;have:=hp x;simp only [Bool.and_eq_true,decide_eq_true_eq,not_and];intro h; omega
theorem Su {n:Nat} {f:Nat→Int} {j:Nat} {i:Int} {b:Bool} (U:b=pC n f j i) (a8:0≤i) (aI:i < (n:Int)) {c:Bool} (an:c=(decide (f i.toNat < f j) && decide (max (i-(j:Int)) ((j:Int)-i)≤f j-f i.toNat))):(b || c)=pC n f j (i+1):=by
 rw [U,Bool.eq_iff_iff];have al:((i.toNat:Nat):Int)=i:=(by omega);unfold pC;rw [Bool.or_eq_true,List.any_eq_true,List.any_eq_true];constructor
 · rintro (⟨x,ad,h⟩|h)
   · refine ⟨x,ad,?_⟩;simp only [Bool.and_eq_true,decide_eq_true_eq] at h ⊢;omega
   · refine ⟨i.toNat,List.mem_range.2 (by omega),?_⟩;rw [an] at h;simp only [Bool.and_eq_true,decide_eq_true_eq] at h ⊢;rw [al]; omega
 · rintro ⟨x,ad,h⟩;simp only [Bool.and_eq_true,decide_eq_true_eq] at h;by_cases KF:(x:Int) < i
   · left; refine ⟨x,ad,?_⟩;simp only [Bool.and_eq_true,decide_eq_true_eq]; omega
   · right;have:x=i.toNat:=by omega
     subst this;rw [an,al] at *;simp only [Bool.and_eq_true,decide_eq_true_eq];omega
theorem Sv {n:Nat} {f:Nat→Int} {j:Nat} {k i:Int} {b:Bool} (U:b=pC n f j i) (hp:∀ x,0≤f x) (aS:f j≤k) (al:i > min ((j:Int)+k) ((n:Int)-1)):b=lS n k f j:=by
 rw [U];unfold pC lS;rw [Bool.eq_iff_iff,List.any_eq_true,List.any_eq_true];constructor
 · rintro ⟨x,ad,h⟩;rw [Bool.and_eq_true] at h;exact ⟨x,ad,h.1⟩
 · rintro ⟨x,ad,h⟩;refine ⟨x,ad,?_⟩;have h1:=List.mem_range.1 ad;have:=hp x;rw [Bool.and_eq_true];refine ⟨h,?_⟩;simp only [Bool.and_eq_true,decide_eq_true_eq] at h ⊢;omega
def stateT (n:Nat) (k:Int) (f:Nat→Int) (i:Nat):List Pos:=((List.range i).filter fun (j:Nat)=>decide (f j≤k) && !lS n k f j).map fun (j:Nat)=>Pos.mk (j:Int) (f j)
theorem acn {n:Nat} {k:Int} {f:Nat→Int} {i:Nat} {l:List Pos} (h:l=stateT n k f i) (bd:f i > k):l=stateT n k f (i+1):=by
 rw [h]; unfold stateT;rw [List.range_succ,List.filter_append,List.filter_cons_of_neg (by simp; omega)]; simp
theorem aco {n:Nat} {k:Int} {f:Nat→Int} {i:Nat} {l:List Pos} (h:l=stateT n k f i) (bd:true=lS n k f i):l=stateT n k f (i+1):=by
 rw [h]; unfold stateT;rw [List.range_succ,List.filter_append,List.filter_cons_of_neg (by simp [←bd])]; simp
theorem acp {n:Nat} {k:Int} {f:Nat→Int} {i:Nat} {l:List Pos} (h:l=stateT n k f i) (bd:¬ f i > k) (a':false=lS n k f i) {x:Int} (ad:x=f i):l++[Pos.mk (i:Int) x]=stateT n k f (i+1):=by
 rw [h,ad]; unfold stateT;rw [List.range_succ,List.filter_append,List.filter_cons_of_pos (by simp [←a']; omega)]; simp
theorem acq (n:Nat) (k:Int) (f:Nat→Int) (i:Nat):(stateT n k f i).length≤i:=by
 unfold stateT;rw [List.length_map];exact Nat.le_trans (List.length_filter_le _ _) (by simp)
theorem acr (n:Nat) (k:Int) (f:Nat→Int):(e6 n k f).length≤n:=acq n k f n
def qk (n:Nat) (k:Int) (q:List Int) (s:List Pos) (r:Int) (i:Nat) (x:Nat):Int:=if x≤i then e0 k q (dg n k s) r x else dg n k s x
theorem acs {n:Nat} {k:Int} {q:List Int} {s:List Pos} {r x:Int} (ad:(gJ n (dg n k s))[0]?=some x):(gJ n (dg n k s)).set 0 (min (x+1) (k+1))=gJ n (qk n k q s r 0):=by
 obtain ⟨zC,gE⟩:=qj ad;refine GK gE ?_ fun j aS cA=>?_
 · rw [zC]; unfold qk; rw [if_pos (Nat.le_refl _)]; rfl
 · unfold qk; rw [if_neg (by omega)]
theorem Sw {n:Nat} {k:Int} {q:List Int} {s:List Pos} {r:Int} {i:Nat} (al:i+1 < n+1) {a b c t:Int} (ao:(gJ n (dg n k s))[i+1]?=some a) (U:(gJ n (qk n k q s r i))[i]?=some b) (an:(gJ n (dg n k s))[i]?=some c) (aQ:t=c+if q[i]?=some r then 0 else 1) :
 (gJ n (qk n k q s r i)).set (i+1) (min (min (min (a+1) (b+1)) t) (k+1))=gJ n (qk n k q s r (i+1)):=by
 obtain ⟨acu,_⟩:=qj ao;obtain ⟨acv,_⟩:=qj U;obtain ⟨acw,_⟩:=qj an;refine GK al ?_ fun j aS cA=>?_
 · have e:b=e0 k q (dg n k s) r i:=(by rw [acv]; unfold qk; rw [if_pos (Nat.le_refl _)]);unfold qk;rw [if_pos (Nat.le_refl _)];show _=min (min (min (dg n k s (i+1)+1) (e0 k q (dg n k s) r i+1)) (dg n k s i+if q[i]?=some r then 0 else 1)) (k+1);rw [←e,←acu,aQ,acw]
 · unfold qk;by_cases h:j≤i
   · rw [if_pos h,if_pos (by omega)]
   · rw [if_neg h,if_neg (by omega)]
theorem acx {n:Nat} {k:Int} {q:List Int} {s:List Pos} {r:Int} {i:Nat} {l:List Int} (h:l=gJ n (qk n k q s r i)) (al:n≤i):l=gJ n (e0 k q (dg n k s) r):=by
 rw [h];refine Di fun j aS=>?_
 unfold qk; rw [if_pos (by omega)]
theorem KG {k:Int} (hk:0≤k) {q:List Int} {f:Nat→Int} {r:Int} (h:∀ i,0≤f i∧f i≤k+1):∀ i,0≤e0 k q f r i∧e0 k q f r i≤k+1
 | 0=>by have:=h 0; unfold e0; omega
 | i+1=>by
  have h1:=h (i+1); have aa:=h i; have aq:=KG (q:=q) (r:=r) hk h i
  unfold e0; split<;>omega
end Go.ab
namespace Go.ab
open Go.aA
theorem acy {n:Nat} {f:Nat→Int} {j:Nat} {i:Int} (U:true=pC n f j i) (a8:0≤i) (aI:i < (n:Int)):true=pC n f j (i+1):=by
 have:=Su (c:=(decide (f i.toNat < f j) && decide (max (i-(j:Int)) ((j:Int)-i)≤f j-f i.toNat))) U a8 aI rfl;rw [Bool.true_or] at this; exact this
theorem Sx {n:Nat} {f:Nat→Int} {j:Nat} {i x:Int} {b:Bool} (U:false=pC n f j i) (a8:0≤i) (aI:i < (n:Int)) (ad:x=f i.toNat) (an:(b=true∧x < f j∧max (i-(j:Int)) ((j:Int)-i)≤f j-x)∨(b=false∧¬ (x < f j∧max (i-(j:Int)) ((j:Int)-i)≤f j-x))):b=pC n f j (i+1):=by
 have:=Su (c:=b) U a8 aI (by
  rw [←ad]
  rcases an with ⟨h,h1,aa⟩|⟨h,h1⟩
  · rw [h,decide_eq_true h1,decide_eq_true aa]; rfl
  · rw [h]
    by_cases aa:x < f j
    · rw [decide_eq_true aa,decide_eq_false (fun aq=>h1 ⟨aa,aq⟩)]; rfl
    · rw [decide_eq_false aa]; rfl)
 rw [Bool.false_or] at this; exact this
theorem Sy {n:Nat} {k:Int} {q:List Int} {r:Int} (hk:0≤k) (s:List Pos) (i x:Nat):0≤qk n k q s r i x∧qk n k q s r i x≤k+1:=by
 unfold qk;split
 · exact KG hk (wz hk s) x
 · exact wz hk s x
theorem acz {α:Type} {l:List α} {b:Bool} (h:b=(((l.length:Nat):Int)==0)):b=l.isEmpty:=by
 rw [h]; cases l<;>simp
 omega
end Go.ab
namespace Go.ab
open Go.aA
theorem acA {n:Nat} {f:Nat→Int} {j:Nat} {i x y:Int} {b:Bool} (U:false=pC n f j i) (a8:0≤i) (aI:i < (n:Int)) (ad:x=f i.toNat) (av:y=f j) (a':x < y) (an:b=decide (max (i-(j:Int)) ((j:Int)-i)≤y-x)):b=pC n f j (i+1):=by
 refine Sx U a8 aI ad ?_;subst av
 cases b with
 | true=>exact .inl ⟨rfl,a',of_decide_eq_true an.symm⟩
 | false=>exact .inr ⟨rfl,fun h=>(of_decide_eq_false an.symm) h.2⟩
theorem acB {n:Nat} {f:Nat→Int} {j:Nat} {i x y:Int} (U:false=pC n f j i) (a8:0≤i) (aI:i < (n:Int)) (ad:x=f i.toNat) (av:y=f j) (a':¬ x < y):false=pC n f j (i+1):=
 Sx U a8 aI ad (.inr ⟨rfl,fun h=>a' (av▸h.1)⟩)
end Go.ab
namespace Go.ab
open Go.aA
def wA (q:List Int) (d:Int) (w:ag):Bool:=decide (GH q (dS w)=d)
structure gg where
 n:Nat
 x:List ag×List bm
 word:ag
def gg.p (z:gg):List Int:=dS z.word
def Br (q:List Int) (d:Int) (z:gg):List ag:=(z.x.1.map (z.word++·)).filter (wA q d)
def lp (q:List Int) (d:Int) (S:List gg):List ag:=S.reverse.flatMap (Br q d)
theorem GM {c:Nat} (an:jt c) (w:ag) (hw:hh w):dS (w++du c)=dS w++[(c:Int)]:=by
 obtain ⟨h1,aa⟩:=FG w hw
 have key:∀ (rs:List Nat),(∀ d∈rs,jt d)→gj (qS rs++du c)=rs++[c]:=by
  intro rs h
  have:qS rs++du c=qS (rs++[c]):=by
   clear h
   induction rs with
   | nil=>simp [qS]
   | cons a rs bq=>rw [ZJ,List.append_assoc,bq]; rfl
  rw [this]
  exact Pm _ fun d hd=>by
   rcases List.mem_append.1 hd with hd|hd
   · exact h d hd
   · simp only [List.mem_singleton] at hd; subst hd; exact an
 have:=key (gj w) aa;rw [h1] at this;unfold dS;rw [this,List.map_append]; rfl
theorem KH {c:Nat} (an:jt c) {w:ag} (hw:hh w):hh (w++du c):=by
 unfold hh;have h:=GM an w hw;intro hm;have:(65533:Int)∈dS (w++du c):=List.mem_map.2 ⟨65533,hm,rfl⟩
 rw [h] at this;rcases List.mem_append.1 this with h1|h1
 · obtain ⟨a,ao,he⟩:=List.mem_map.1 h1;have:a=65533:=by omega
   subst this; exact hw ao
 · simp only [List.mem_singleton] at h1;have:=an.2.2;omega
theorem acC:∀ (t:ag),hh t→∀ (w:ag),hh w→∃ u,dS (w++t)=dS w++u∧hh (w++t):=by
 intro t aQ;refine Jm (p:=fun t=>∀ (w:ag),hh w→∃ u,dS (w++t)=dS w++u∧hh (w++t)) ?_ ?_ t aQ
 · intro w hw; exact ⟨[],by simp,by simpa using hw⟩
 · intro c t an _ bq w hw;obtain ⟨u,h1,aa⟩:=bq (w++du c) (KH an hw);rw [GM an w hw] at h1;rw [List.append_assoc] at h1 aa;exact ⟨(c:Int)::u,by rw [h1]; simp,aa⟩
theorem acD {q:List Int} {d:Int} (hd:0≤d) {w:ag} (hw:hh w) (h:eN q d (dS w)=[]) {l:List ag} (a':∀ t∈l,hh t):(l.map (w++·)).filter (wA q d)=[]:=by
 rw [List.filter_eq_nil_iff];intro x ad;obtain ⟨t,aQ,rfl⟩:=List.mem_map.1 ad;obtain ⟨u,h1,_⟩:=acC t (a' t aQ) w hw;have:=ab9 (ab8 hd h) u;unfold wA;rw [h1];simp only [decide_eq_true_eq]; omega
def xZ (q:List Int) (d:Int) (z:gg) (g:Nat×List ag):List ag:=(g.2.map ((z.word++du g.1)++·)).filter (wA q d)
theorem acE {q:List Int} {d:Int} {z:gg} (h:fD z.x.1):Br q d z=(if iB z.x.1=true∧wA q d z.word=true then [z.word] else [])++(ga (eZ z.x.1)).flatMap (xZ q d z):=by
 unfold Br;rw [PX h,List.filter_append];congr 1
 · by_cases bd:iB z.x.1=true
   · rw [if_pos bd];by_cases aI:wA q d z.word=true
     · rw [if_pos ⟨bd,aI⟩,List.filter_cons_of_pos aI]; rfl
     · rw [if_neg (fun h=>aI h.2),List.filter_cons_of_neg aI]; rfl
   · rw [if_neg bd,if_neg (fun h=>bd h.1)]; rfl
 · unfold rU;rw [List.drop_zero,List.filter_flatMap];congr 1
   funext g;unfold xZ;congr 1
   exact List.map_congr_left fun t _=>by simp
def lq (q:List Int) (d:Int) (z:gg) (k:Nat):List ag:=((ga (eZ z.x.1)).drop k).flatMap (xZ q d z)
theorem acF {q:List Int} {d:Int} {z:gg}:lq q d z 0=(ga (eZ z.x.1)).flatMap (xZ q d z):=by unfold lq; rw [List.drop_zero]
theorem acG {q:List Int} {d:Int} {z:gg} {k:Nat} (h:(ga (eZ z.x.1)).length≤k):lq q d z k=[]:=by unfold lq; rw [List.drop_of_length_le h]; rfl
theorem GN {q:List Int} {d:Int} {z:gg} {k:Nat} {g:Nat×List ag} (h:(ga (eZ z.x.1))[k]?=some g):lq q d z k=xZ q d z g++lq q d z (k+1):=by
 unfold lq; rw [zn h,List.flatMap_cons]
theorem Sz {q:List Int} {d:Int} {S:List gg} {z:gg}:lp q d (S++[z])=Br q d z++lp q d S:=by
 unfold lp; rw [List.reverse_append]; simp
theorem acH {q:List Int} {d:Int} {S:List gg} {z y:gg} {g:Nat×List ag} (av:y.x.1=g.2) (hw:y.word=z.word++du g.1):lp q d (S++[y])=xZ q d z g++lp q d S:=by
 rw [Sz];congr 1
 unfold Br xZ;rw [av,hw]
def sK (l:List ag):Nat:=1+(l.map fun t=>(gj t).length).sum
def pD (S:List gg):Nat:=(S.map fun z=>sK z.x.1).sum
theorem SA (S:List gg) (z:gg):pD (S++[z])=pD S+sK z.x.1:=by simp [pD]
theorem acI (a b:List ag):((a++b).map fun t=>(gj t).length).sum=(a.map fun t=>(gj t).length).sum+(b.map fun t=>(gj t).length).sum:=by simp
theorem acJ {c:Nat} (an:jt c) (l:List ag):((l.map (du c++·)).map fun t=>(gj t).length).sum=l.length+(l.map fun t=>(gj t).length).sum:=by
 induction l with
 | nil=>rfl
 | cons a l bq =>
  simp only [List.map_cons,List.sum_cons,List.length_cons]
  rw [bq,u2 an]
  simp only [List.length_cons]; omega
def vk (l:List (Nat×List ag)):Nat:=(l.map fun g=>sK g.2).sum
theorem SB:∀ (n:Nat) (l:List ag),l.length≤n→fD l→(∀ s∈l,s≠[])→vk (ga l)≤(l.map fun t=>(gj t).length).sum
 | _,[],_,_,_=>by simp [za,vk]
 | 0,_::_,h,_,_=>by simp at h
 | n+1,s::r,h,aO,aI=>by
  have aF:=aI s (by simp)
  have bd:=aO.my s (by simp)
  obtain ⟨CA,ps,_⟩:=bd.split aF
  have an:jt (fm s):=CA
  have hp:cU s=du (fm s):=(xw aF ((xx aF).1 bd).1).2.symm
  have acK:=CJ (cU s) (s::r)
  have GO:=congrArg (fun l:List ag=>(l.map fun t=>(gj t).length).sum) acK
  have acL:(((ee (cU s) (s::r)).map (cU s++·)++ka (cU s) (s::r)).map fun t=>(gj t).length).sum=((s::r).map fun t=>(gj t).length).sum:=GO
  replace GO:=acL
  rw [acI,hp,acJ an] at GO
  have hm:=y' s r
  have hlen:1≤(ee (cU s) (s::r)).length:=by
   unfold ee
   rw [List.takeWhile_cons,if_pos (y_ s)]; simp
  have bq:=SB n (ka (cU s) (s::r)) (by simp only [List.length_cons] at h; omega) (aO.more _) fun t aQ=>aI t ((List.dropWhile_sublist _).subset aQ)
  rw [AU]
  unfold vk at bq ⊢
  rw [hp] at bq hlen ⊢
  simp only [List.map_cons,List.sum_cons]
  unfold sK at bq ⊢
  simp only [List.map_cons,List.sum_cons] at GO
  omega
theorem acM {l:List ag} (h:fD l):vk (ga (eZ l))+1≤sK l:=by
 have hd:=tC h;have:=SB _ _ (Nat.le_refl _) hd.1 hd.2
 have aF:((eZ l).map fun t=>(gj t).length).sum=(l.map fun t=>(gj t).length).sum:=by
  cases l with
  | nil=>rfl
  | cons a r=>cases a with
   | nil=>simp [eZ,v7]
   | cons b a=>rfl
 unfold sK;omega
def pE (l:List (Nat×List ag)) (k:Nat):Nat:=vk (l.drop k)
theorem GP {l:List (Nat×List ag)} {k:Nat} {g:Nat×List ag} (h:l[k]?=some g):pE l k=sK g.2+pE l (k+1):=by
 unfold pE vk; rw [zn h]; simp
theorem acN (l:List (Nat×List ag)):pE l 0=vk l:=by unfold pE; rw [List.drop_zero]
theorem Dj (l:List ag):1≤sK l:=by unfold sK; omega
def ql (words:List ag) (q:List Int) (d:Int):List ag:=words.filter (wA q d)
theorem SC {q:List Int} {d:Int} {words:List ag} {es:List bm} {n:Nat}:lp q d [⟨n,(words,es),[]⟩]=ql words q d:=by
 unfold lp Br ql;simp
theorem acO {q:List Int} {d:Int} (hd:0≤d) {w:ag} {D:Int} (iE:D=dg q.length d (eN q d (dS w)) q.length):(D≤d∧D=d)↔wA q d w=true:=by
 rw [ab_ hd] at iE;unfold wA;rw [decide_eq_true_eq];omega
end Go.ab
set_option linter.unusedSectionVars false
namespace Go.aA
open Go
theorem Acc.cut {P:Program} {α:Type} {enc:α→List Value} {e:TypeId} {sz g:Nat} {w:World} {v:Value} {l:List α} {t:TypeId} {by_:Nat} {fv:Bool} {z:List Value} (h:Acc enc e sz w g v l) (aQ:P.underlying t=some (.slice e)) (he:dX P e=some (fv,sz,by_,z)) (dr:∀ x,(enc x).length=sz)
 {k:IntKind} {n:Int} (j:Nat) (aI:n=(j:Int)) (aS:j≤l.length):∃ g_,(∀ w,(Instr.sliceAt t v none (some (.int k n)) none).run P w=.ok g_ w)∧Acc enc e sz w g g_ (l.take j):=by
 rcases h with ⟨h1,aa,aq⟩|⟨b,cap,cur,a8,h1,aa,aq,a6,bT,ed⟩
 · subst aa;have KI:j=0:=(by simpa using aS);subst KI;refine ⟨.slice none 0 0,fun w=>?_,.inl ⟨rfl,rfl,aq⟩⟩;subst h1;simp [Instr.sliceAt,Instr.slice,Instr.sliceBounds,run_underlying aQ,run_sizeOf he,sr (P:=P) (k:=k) _ aI (Nat.le_refl 0)]
 · refine ⟨.slice (some ⟨b,0,none⟩) j cap,fun w=>?_,.inr ⟨b,cap,cur,a8,by rw [List.length_take,Nat.min_eq_left aS],aa,by rw [List.length_take]; omega,a6,bT,?_⟩⟩
   · subst h1;have U:=fun c w=>sr (P:=P) (k:=k) c aI (Nat.le_trans aS aq) w
     by_cases an:cap=0
     · subst an;have KI:j=0:=(by omega);subst KI;simp [Instr.sliceAt,Instr.slice,Instr.sliceBounds,run_underlying aQ,run_sizeOf he,U]
     · simp [Instr.sliceAt,Instr.slice,Instr.sliceBounds,run_underlying aQ,run_sizeOf he,U,an,add_lit]
   · rw [List.length_take,Nat.min_eq_left aS,←On dr,←ed,List.take_take,Nat.min_eq_left (Nat.mul_le_mul_right _ aS)]
theorem gp.zD {gt:TypeId} {w ah:World} {cn al:Nat} {M:Nat→Prop} {v:Value} {N:List bC} (h:gp gt w cn al v N) (hm:Mod M w ah) (hd:∀ b,cn≤b→b < al→¬ M b):gp gt ah cn al v N:=by
 rcases h with h|⟨b,fJ,aT,h1,aa,aq,a6,bT⟩
 · exact .inl h
 · exact .inr ⟨b,fJ,aT,h1,aa,⟨aq.1,aq.2.1,aq.2.2.keep hm (hd b aq.1 aq.2.1)⟩,a6.keep hm fun b U=>hd b U.1 U.2,bT.keep hm fun b U=>hd b U.1 U.2⟩
structure SD (P:Program) {cr:Type} (mN:FuncId) (first cap:List Value) (A:cr→dc (fun _=>False)) (ok:cr→ag→Prop) (f:cr→ag→cr×Bool):Prop where
 cl:bX P mN=true
 call:∀ s F w x,(A s).p F w→(∀ b,F b→b < w.heap.size)→ok s x→Calls P mN (first++[aH x]++cap).toArray w (aj fun aD ah=>aD=.bool (f s x).2∧Mod F w ah∧∃ F',(A (f s x).1).p F' ah∧∀ b,F' b→b < ah.heap.size∧(F b∨w.heap.size≤b))
section
variable {R bB:Nat→Prop} {w0 w ah:World} {L:List (dc R)} {i j:Nat} {α:Type} {enc:α→List Value}
theorem ar.Dk {vs:List (Value×List α)} {v:Value} {l:List α} (h:ar R bB w0 w L) (al:L[i]?=some (ff enc vs)) (hm:(v,l)∈vs):ak enc w (aR 0 w.heap.size) v l:=by
 obtain ⟨k,hk,he⟩:=List.getElem_of_mem hm;exact h.bl al (List.getElem?_eq_some_iff.2 ⟨hk,he⟩)
theorem GQ {V Dl:List (Value×List α)} {F:Nat→Prop} (h:(bA (R:=R) [ff enc V,ff enc Dl]).p F w):(ff (R:=R) enc (V++Dl)).p F w:=by
 obtain ⟨fe,h1,aa,_⟩:=h;intro x ad;rcases List.mem_append.1 ad with ad|ad
 · exact (h1 0 _ rfl x ad).mono fun b U=>U.imp (fun h=>(aa 0 b h).1.1) id
 · exact (h1 1 _ rfl x ad).mono fun b U=>U.imp (fun h=>(aa 1 b h).1.1) id
end
structure gu where
 node:Int
 st:cb
 word:ag
def pF (x:gu):List Value:=[.int .i64 x.node,x.st.val,aH x.word]
theorem zE (x:gu):(pF x).length=3:=rfl
theorem GR (x:gu):(pF x).all (·.oneCell')=true:=rfl
open ab
structure mc (q:List Int) (d:Int) (s:ch) (V:List (Value×List Pos)) (p:gu) (z:gg):Prop where
 node:p.node=(z.n:Int)
 word:p.word=z.word
 st:(p.st.val,eN q d (dS z.word))∈V
 acP:nodeAt (fa s) (z.n:Int)=(iB z.x.1,z.x.2)
 u3:nq s z.x
 eQ:fD z.x.1
 my:hh z.word
 lt:z.n≤1000000
 deep:∃ e,Deep e z.x.1∧z.word.length+4*e≤48
theorem mc.mono {q:List Int} {d:Int} {s:ch} {V Dl:List (Value×List Pos)} {p:gu} {z:gg} (h:mc q d s V p z) (y0:∀ x∈V,x∈Dl):mc q d s Dl p z:={ h with st:=y0 _ h.st }
theorem mc.start {q:List Int} {d:Int} (hd:0≤d) {s:ch} {words:List ag} {es:List bm} {sh:cb} {v:Value} (bG:v=sh.val) (oD:nodeAt (fa s) 0=(iB words,es)) (an:nq s (words,es)) (aO:fD words) (Gv:Deep 12 words) :
 cx (mc q d s [(v,[⟨0,0⟩])]) [gu.mk 0 sh []] [⟨0,(words,es),[]⟩]:=
 .cons ⟨rfl,rfl,by rw [bG,show dS ([]:ag)=[] from rfl,ab5 hd]; simp,oD,an,aO,by simp [hh,v7],by simp,12,Gv,by simp⟩ .nil
theorem cx.snoc {α β:Type} {R:α→β→Prop} {l:List α} {m:List β} {a:α} {b:β} (h:cx R l m) (mz:R a b):cx R (l++[a]) (m++[b]):=by
 induction h with
 | nil=>exact .cons mz .nil
 | cons x _ bq=>exact .cons x bq
theorem cx.pop {α β:Type} {R:α→β→Prop}:∀ {l:List α} {m:List β} {n:Nat} {a:α},cx R l m→l[n]?=some a→n+1=l.length→∃ m1 b,m=m1++[b]∧cx R (l.take n) m1∧R a b
 | _,_,n,a,.nil,ad,_=>by simp at ad
 | _,_,0,a,.cons (l:=l) (m:=m) mz h,ad,aI=>by
  have:l=[]:=List.eq_nil_of_length_eq_zero (by simp only [List.length_cons] at aI; omega)
  subst this
  cases h
  simp only [List.getElem?_cons_zero,Option.some.injEq] at ad
  subst ad
  exact ⟨[],_,rfl,.nil,mz⟩
 | _,_,n+1,a,.cons (l:=l) (m:=m) mz h,ad,aI=>by
  obtain ⟨m1,b,h1,aa,aq⟩:=cx.pop h (by simpa using ad) (by simp only [List.length_cons] at aI; omega)
  exact ⟨_::m1,b,by rw [h1]; rfl,.cons mz aa,aq⟩
theorem mc.pop {q:List Int} {d:Int} {s:ch} {V:List (Value×List Pos)} {gm:List gu} {l7:List gg} {n:Nat} {x:gu} (h:cx (mc q d s V) gm l7) (ad:gm[n]?=some x) (aI:n+1=gm.length) :
 ∃ k4 z sh,l7=k4++[z]∧x=gu.mk (z.n:Int) sh z.word∧cx (mc q d s V) (gm.take n) k4∧(sh.val,eN q d (dS z.word))∈V∧nodeAt (fa s) (z.n:Int)=(iB z.x.1,z.x.2)∧nq s z.x∧fD z.x.1∧hh z.word∧z.n≤1000000∧∃ e,Deep e z.x.1∧z.word.length+4*e≤48:=by
 obtain ⟨k4,z,h1,aa,aq⟩:=cx.pop h ad aI;refine ⟨k4,z,x.st,h1,?_,aa,aq.st,aq.acP,aq.u3,aq.eQ,aq.my,aq.lt,aq.deep⟩;rw [←aq.node,←aq.word]
theorem mc.push {q:List Int} {d:Int} (hd:0≤d) {s:ch} {V:List (Value×List Pos)} {gm:List gu} {l7:List gg} (h:cx (mc q d s V) gm l7) (dr:s.length≤1000000) (kL:∀ y∈s,nq s y∧fD y.1∧Deep 12 y.1) {w:ag} (hw:hh w) {g:Nat×List ag} {j:Nat} {es:List bm} {r:Int} {sh:cb} {L:List Pos} {wd:ag} {tN:Nat}
 (kv:r=(g.1:Int)) (aS:s[j]?=some (g.2,es)) (aO:jt g.1) (kf:L=e6 (q.length+1) d (e0 d q (dg q.length d (eN q d (dS w))) r)) (Bs:wd=w++du g.1) (r5:Deep tN g.2) (hlen:w.length+4*(tN+1)≤48) {to:Int} (o4:to=(j:Int)) :
 cx (mc q d s (V++[(sh.val,L)])) (gm++[gu.mk to sh wd]) (l7++[⟨j,(g.2,es),w++du g.1⟩]):=by
 have aI:=kL _ (List.mem_of_getElem? aS);have a6:=we g.1;refine cx.snoc (h.imp fun a b mz=>mz.mono fun x ad=>by simp [ad]) ⟨o4,Bs,?_,zm aS,aI.1,aI.2.1,KH aO hw,by have:=(List.getElem?_eq_some_iff.1 aS).1; simp only; omega,tN,r5,by simp only [List.length_append]; omega⟩;rw [kf,kv,Sr hd,←GM aO w hw];simp
theorem zF:∀ {gm:List gu} {l7:List gg} {R:gu→gg→Prop},cx R gm l7→gm.length≤pD l7
 | _,_,_,.nil=>by simp
 | _,_,_,.cons (b:=b) (m:=m) _ h=>by
  have:=zF h
  have h1:=Dj b.x.1
  simp only [List.length_cons,pD,List.map_cons,List.sum_cons] at this ⊢
  omega
end Go.aA
namespace Go.ab
open Go.aA
section
variable {cr:Type} {f:cr→ag→cr×Bool} {ok:cr→ag→Prop} {eo dt:cr} {L E T:List ag} {w:ag} {P:Prop} [Decidable P]
theorem KJ (h:e5 f eo L=e5 f dt (((if P then [w] else [])++E)++T)) (hp:¬ P):e5 f eo L=e5 f dt (E++T):=by rw [if_neg hp] at h; exact h
theorem KK (h:kH ok f dt (((if P then [w] else [])++E)++T)) (hp:¬ P):kH ok f dt (E++T):=by rw [if_neg hp] at h; exact h
theorem acQ (h:e5 f eo L=e5 f dt (((if P then [w] else [])++E)++T)) (hp:P) (av:(f dt w).2=true):e5 f eo L=e5 f (f dt w).1 (E++T):=by
 rw [if_pos hp,List.append_assoc] at h; rw [h]; exact JF av
theorem SE (h:e5 f eo L=e5 f dt (((if P then [w] else [])++E)++T)) (hp:P) (av:(f dt w).2=false):e5 f eo L=((f dt w).1,false):=by
 rw [if_pos hp,List.append_assoc] at h; rw [h]; exact tE av
theorem acR (h:kH ok f dt (((if P then [w] else [])++E)++T)) (hp:P):ok dt w:=by
 rw [if_pos hp,List.append_assoc] at h; exact h.1
theorem acS (h:kH ok f dt (((if P then [w] else [])++E)++T)) (hp:P) (av:(f dt w).2=true):kH ok f (f dt w).1 (E++T):=by
 rw [if_pos hp,List.append_assoc] at h; exact h.2 av
end
theorem Dm {D d:Int} (h:decide (D≤d)=true) (aa:(if D > d then 0 else D)=d):D≤d∧D=d:=by
 have:=of_decide_eq_true h;rw [if_neg (by omega)] at aa;exact ⟨this,aa⟩
theorem Bt {D d:Int} (aa:¬ (if D > d then 0 else D)=d) (an:D≤d∧D=d):False:=by rw [if_neg (by omega)] at aa; exact aa an.2
theorem Bu {D d:Int} (h:decide (D≤d)=false) (an:D≤d∧D=d):False:=(of_decide_eq_false h) an.1
theorem acT {s:ch} {q:List Int} {d:Int} (hd:0≤d) {z:gg} {g:Nat×List ag} {j:Nat} {es:List bm} {r:Int} {L:List Pos} (bd:hh z.word) (kv:r=(g.1:Int)) (aO:jt g.1) (aS:s[j]?=some (g.2,es)) (kL:∀ y∈s,nq s y∧fD y.1∧Deep 12 y.1)
 (kf:L=e6 (q.length+1) d (e0 d q (dg q.length d (eN q d (dS z.word))) r)) (acU:L.isEmpty=true):xZ q d z g=[]:=by
 have aI:=kL _ (List.mem_of_getElem? aS);rw [kv,Sr hd,←GM aO z.word bd] at kf;have he:L=[]:=List.isEmpty_iff.1 acU;rw [he] at kf;exact acD hd (KH aO bd) kf.symm aI.2.1.my
end Go.ab
namespace Go.ab
open Go.aA
theorem SF {q:List Int} {d:Int} {z:gg} {i:Int} (h:i < 0):lq q d z (i+1).toNat=lq q d z 0:=by rw [show (i+1).toNat=0 from by omega]
theorem KL {l:List (Nat×List ag)} {i:Int} (h:i < 0):pE l (i+1).toNat=vk l:=by rw [show (i+1).toNat=0 from by omega,acN]
theorem SG {q:List Int} {d:Int} {z:gg} {i:Int} {X:List ag} (h:0≤i) (ad:lq q d z i.toNat=X++lq q d z (i.toNat+1)):lq q d z (i-1+1).toNat=X++lq q d z (i+1).toNat:=by
 rw [show (i-1+1).toNat=i.toNat from by omega,show (i+1).toNat=i.toNat+1 from by omega]; exact ad
theorem SH {l:List (Nat×List ag)} {i:Int} {x:Nat} (h:0≤i) (ad:pE l i.toNat=x+pE l (i.toNat+1)):pE l (i-1+1).toNat=x+pE l (i+1).toNat:=by
 rw [show (i-1+1).toNat=i.toNat from by omega,show (i+1).toNat=i.toNat+1 from by omega]; exact ad
theorem acV {s:ch} {x:List ag×List bm} (an:nq s x):(ga (eZ x.1)).length=x.2.length:=(cx.get an).1
theorem SI {q:List Int} {d:Int} {s:ch} {V:List (Value×List Pos)} {gm:List gu} {l7:List gg} (h:cx (mc q d s V) gm l7) (hp:gm.length=0):l7=[]:=by
 have:=(cx.get h).1;exact List.eq_nil_of_length_eq_zero (by omega)
end Go.ab
namespace Go.ab
open Go.aA
theorem GS (l:List (Nat×List ag)) (k:Nat):pE l k≤vk l:=by
 unfold pE vk
 conv=>rhs; rw [←List.take_append_drop k l]
 rw [List.map_append,List.sum_append]; omega
end Go.ab
namespace Go.ab
open Go.aA
structure dk where
 cd:Int
 word:ag
deriving DecidableEq
def hK (x:dk):List Value:=[.int .i64 x.cd,aH x.word]
theorem GU (x:dk):(hK x).length=2:=rfl
theorem SJ (x:dk):(hK x).all (·.oneCell')=true:=rfl
structure dk.Ok (x:dk):Prop where
 cd:bp x.cd
 word:x.word.length≤maxLen
def KM (a b:dk):Int:=mL [nR a.cd b.cd,Lib.compareBytes a.word b.word]
def vl (a b:dk):Bool:=decide (KM a b < 0)
def nZ (g:List bC) (s:ag) (k:Int):Bool:=(!g.isEmpty) && decide (0≤k∧k≤4) && asked s
def hL (g:List bC) (s:ag) (k:Int):List Int:=if nZ g s k=true then dS s else []
theorem SK {s:ag} {k:Int}:nZ [] s k=false:=rfl
theorem SL {g:List bC} {s:ag} {k:Int} (h:k < 0∨k > 4):nZ g s k=false:=by unfold nZ; rw [decide_eq_false (by omega)]; simp
theorem SM {g:List bC} {s:ag} {k:Int} (h:asked s=false):nZ g s k=false:=by unfold nZ; rw [h]; simp
theorem KN {g:List bC} {s:ag} {k:Int} (aO:g≠[]) (hk:0≤k∧k≤4) (h:asked s=true):nZ g s k=true:=by
 unfold nZ; rw [h,decide_eq_true hk]; cases g<;>simp at *
theorem GV {g:List bC} {s:ag} {k:Int}:nZ g s k=true↔g≠[]∧(0≤k∧k≤4)∧asked s=true:=by
 constructor
 · intro h;unfold nZ at h;simp only [Bool.and_eq_true,decide_eq_true_eq,Bool.not_eq_true',List.isEmpty_eq_false_iff] at h;exact ⟨h.1.1,h.1.2,h.2⟩
 · rintro ⟨h1,aa,aq⟩; exact KN h1 aa aq
theorem KO {s:ag} (h:asked s=true):k0 s=true:=by
 unfold asked at h;simp only [Bool.and_eq_true,decide_eq_true_eq] at h;have:=h.1;unfold hQ at this;unfold k0;split at this
 · omega
 · exact decide_eq_true (by assumption)
theorem acW {g:List bC} {s:ag} {k:Int} (h:nZ g s k=false):([]:List Int)=hL g s k:=by unfold hL; rw [h]; rfl
theorem acX {g:List bC} {s:ag} {k:Int} (h:nZ g s k=true):ji s=hL g s k:=by
 unfold hL; rw [if_pos h,ji,if_pos (KO (GV.1 h).2.2)]
theorem acY {g:List bC} {s:ag} {k:Int} (h:nZ g s k=true):hL g s k=dS s:=by unfold hL; rw [if_pos h]
theorem acZ {s:ag} (h:asked s=true):(dS s).length≤16:=by
 have bd:=KO h;unfold asked at h;simp only [Bool.and_eq_true,decide_eq_true_eq] at h;unfold hQ at h;unfold k0 at bd;rw [if_neg (of_decide_eq_true bd)] at h;unfold dS;rw [List.length_map]; omega
theorem SN (g:List bC) (s:ag) (k:Int):(hL g s k).length≤16:=by
 unfold hL;split
 · exact acZ (GV.1 (by assumption)).2.2
 · simp
theorem SO (words:List ag) (q:List Int) (d:Int):(ql words q d).length≤words.length:=List.length_filter_le _ _
theorem ac0 {words:List ag} (hd:Deep 12 words) (a':words.length≤1000):sK words≤500000:=by
 have:(words.map fun t=>(gj t).length).sum≤words.length*12:=by
  clear a'
  induction words with
  | nil=>simp
  | cons a l bq =>
   have h1:=hd a (by simp)
   have aa:=bq fun t aQ=>hd t (by simp [aQ])
   simp only [List.map_cons,List.sum_cons,List.length_cons]
   omega
 unfold sK; omega
def lT (first:Bool) (after:dk) (batch d:Int) (s:List dk×Bool) (w:ag):(List dk×Bool)×Bool:=
 if first=false∧vl after ⟨d,w⟩=false then (s,!s.2)
 else if (s.1.length:Int)=batch then ((s.1,true),false)
 else ((s.1++[⟨d,w⟩],s.2),!s.2)
def SP (words:List ag) (q:List Int) (first:Bool) (after:dk) (batch:Int) (d:Nat):List dk×Bool→List dk×Bool:=fun s=>(e5 (lT first after batch d) s (ql words q d)).1
def hY (words:List ag) (q:List Int) (first:Bool) (after:dk) (batch:Int):Nat→List dk×Bool
 | 0=>([],false)
 | d+1=>let s:=hY words q first after batch d; if s.2=true then s else SP words q first after batch d s
def pG (g:List bC) (words:List ag) (s:ag) (k:Int) (first:Bool) (after:dk) (batch:Int):List dk×Bool:=
 if nZ g s k=true then ((hY words (dS s) first after (max batch 0) (k.toNat+1)).1,!(hY words (dS s) first after (max batch 0) (k.toNat+1)).2) else ([],true)
end Go.ab
namespace Go.aA
open Go Go.ab
theorem ac1 {F bB:Nat→Prop} {w0 w:World} {R:Nat→Prop} {al:Nat} (h:∀ b,F b→((bB b∨w0.heap.size≤b)∧¬ R b)∧b < w.heap.size) (bO:∀ b,bB b→False) (ot:al≤w0.heap.size) {cn:Nat}:∀ b,cn≤b→b < al→¬ F b:=fun b _ aa U=>by
 rcases (h b U).1.1 with aq|aq
 · exact bO b aq
 · omega
end Go.aA
namespace Go.ab
open Go.aA
theorem SQ {g:List bC} {words:List ag} {s:ag} {k batch:Int} {first:Bool} {after:dk} (h:nZ g s k=false):pG g words s k first after batch=([],true):=by unfold pG; rw [h]; rfl
end Go.ab
namespace Go.ab
open Go.aA
theorem x0 {after:dk} {batch d:Int} {s:List dk×Bool} {w:ag} (h:vl after ⟨d,w⟩=false):lT false after batch d s w=(s,!s.2):=by unfold lT; rw [if_pos ⟨rfl,h⟩]
theorem x1 {first:Bool} {after:dk} {batch d:Int} {s:List dk×Bool} {w:ag} (h:first=true∨vl after ⟨d,w⟩=true) (U:(s.1.length:Int)=batch):lT first after batch d s w=((s.1,true),false):=by
 unfold lT;rw [if_neg (by rintro ⟨h1,aa⟩; rcases h with h|h<;>simp_all),if_pos U]
theorem x3 {first:Bool} {after:dk} {batch d:Int} {s:List dk×Bool} {w:ag} (h:first=true∨vl after ⟨d,w⟩=true) (U:¬ (s.1.length:Int)=batch):lT first after batch d s w=((s.1++[⟨d,w⟩],s.2),!s.2):=by
 unfold lT;rw [if_neg (by rintro ⟨h1,aa⟩; rcases h with h|h<;>simp_all),if_neg U]
theorem SR (first:Bool) (after:dk) (batch d:Int) (s:List dk×Bool) (w:ag):(lT first after batch d s w).1.1.length≤s.1.length+1:=by
 unfold lT;split
 · simp
 · split
   · simp
   · simp
theorem SS (first:Bool) (after:dk) (batch d:Int) (m:Nat):∀ (L:List ag) (s:List dk×Bool),s.1.length+L.length≤m→kH (fun (s:List dk×Bool) (_:ag)=>s.1.length≤m) (lT first after batch d) s L
 | [],s,_=>trivial
 | x::L,s,h=>⟨by simp only [List.length_cons] at h; omega,fun _=>SS first after batch d m L _ (by
  have:=SR first after batch d s x
  simp only [List.length_cons] at h; omega)⟩
theorem SU (first:Bool) (after:dk) (batch d:Int):∀ (L:List ag) (s:List dk×Bool),(e5 (lT first after batch d) s L).1.1.length≤s.1.length+L.length
 | [],s=>by simp [e5]
 | x::L,s=>by
  have h1:=SR first after batch d s x
  have aa:=SU first after batch d L (lT first after batch d s x).1
  unfold e5
  split
  · simp only [List.length_cons]; omega
  · simp only [List.length_cons]; omega
theorem GW (words:List ag) (q:List Int) (first:Bool) (after:dk) (batch:Int):∀ d,(hY words q first after batch d).1.length≤d*words.length
 | 0=>by simp [hY]
 | d+1=>by
  have bq:=GW words q first after batch d
  unfold hY
  simp only
  split
  · rw [Nat.succ_mul]; omega
  · have h1:=SU first after batch d (ql words q d) (hY words q first after batch d)
    have aa:=SO words q d
    unfold SP
    rw [Nat.succ_mul]; omega
theorem ac2 {words:List ag} {q:List Int} {first:Bool} {after:dk} {batch:Int} {d:Nat} (h:false=(hY words q first after batch d).2):(e5 (lT first after batch d) (hY words q first after batch d) (ql words q d)).1=hY words q first after batch (d+1):=by
 conv=>rhs; unfold hY
 simp only;rw [←h]; rfl
theorem SV {words:List ag} {q:List Int} {first:Bool} {after:dk} {batch:Int} {n:Nat} (h:(hY words q first after batch n).2=true):∀ m,hY words q first after batch (n+m)=hY words q first after batch n
 | 0=>rfl
 | m+1=>by
  have bq:=SV h m
  rw [←Nat.add_assoc]
  conv=>lhs; unfold hY
  simp only
  rw [bq,if_pos h]
theorem KP {g:List bC} {words:List ag} {s:ag} {k batch:Int} {first:Bool} {after:dk} (hm:nZ g s k=true) {n:Nat} (h:(hY words (hL g s k) first after (max batch 0) n).2=true∧(n:Int)≤k+1∨(n:Int)=k+1) :
 pG g words s k first after batch=((hY words (hL g s k) first after (max batch 0) n).1,!(hY words (hL g s k) first after (max batch 0) n).2):=by
 have hk:=(GV.1 hm).2.1;unfold pG;rw [if_pos hm,←acY hm];rcases h with ⟨h,aI⟩|h
 · have:=SV h (k.toNat+1-n);rw [show n+(k.toNat+1-n)=k.toNat+1 from by omega] at this;rw [this]
 · rw [show n=k.toNat+1 from by omega]
theorem SX {g:List bC} {words:List ag} {s:ag} {k batch:Int} {first:Bool} {after:dk} (hm:nZ g s k=true) {n:Nat} (h:(hY words (hL g s k) first after (max batch 0) n).2=true∧(n:Int)≤k+1∨(n:Int)=k+1) {b:Bool} (U:(hY words (hL g s k) first after (max batch 0) n).2=b) :
 (!b)=(pG g words s k first after batch).2:=by rw [KP hm h,U]
end Go.ab
namespace Go.aA
open Go Go.ab
def o5 {R:Nat→Prop} (qa e tb:TypeId) (eu er:Nat) (s:List dk×Bool):dc R:=nt fun v:Value=>bA [az eu [v] qa,bb hK e 2 v s.1,az er [.bool s.2] tb]
end Go.aA
namespace Go.ab
open Go.aA
theorem ac3 {α:Type} {p:List α→Prop} (a8:p []) (h1:∀ l a,p l→p (l++[a])):∀ l,p l:=by
 intro l;rw [←List.reverse_reverse l];generalize l.reverse=r
 induction r with
 | nil=>exact a8
 | cons a r bq=>rw [List.reverse_cons]; exact h1 _ _ bq
def sL (a b:ag):Int:=if k0 a=true∧k0 b=true then GH (dS b) (dS a) else -1
theorem SY {a b:dk}:vl a b=true↔a.cd < b.cd∨a.cd=b.cd∧Lib.compareBytes a.word b.word < 0:=by
 unfold vl KM;rw [decide_eq_true_eq]
 have ac4:mL [nR a.cd b.cd,Lib.compareBytes a.word b.word]=if nR a.cd b.cd≠0 then nR a.cd b.cd else Lib.compareBytes a.word b.word:=by
  simp only [mL]
  split
  · rfl
  · split
    · rfl
    · omega
 rw [ac4];unfold nR;by_cases h1:a.cd < b.cd
 · simp [h1]
 · by_cases aa:a.cd > b.cd
   · simp [h1,aa]; omega
   · have:a.cd=b.cd:=by omega
     simp [this]
def sM (a b:dk):Prop:=vl a b=true
theorem ac5 {a b c:dk} (h1:sM a b) (aa:sM b c):sM a c:=by
 unfold sM at *;rw [SY] at *;rcases h1 with h1|⟨h1,ac6⟩<;>rcases aa with aa|⟨aa,Gw⟩
 · exact .inl (by omega)
 · exact .inl (by omega)
 · exact .inl (by omega)
 · exact .inr ⟨by omega,lt_trans ac6 Gw⟩
theorem ac7 {a b:dk} (h:¬ sM a b) (cA:a≠b):sM b a:=by
 unfold sM at *;rw [SY] at *;have h1:¬ a.cd < b.cd:=fun x=>h (.inl x)
 by_cases aa:b.cd < a.cd
 · exact .inl aa
 · have he:b.cd=a.cd:=(by omega);refine .inr ⟨he,?_⟩;have aq:¬ Lib.compareBytes a.word b.word < 0:=fun x=>h (.inr ⟨he.symm,x⟩)
   have a6:Lib.compareBytes a.word b.word≠0:=fun e=>cA (by
    cases a; cases b
    simp only at *
    rw [he,cmp_eq e])
   exact Yp aq fun e=>a6 (by rw [e]; exact FH _)
def wB (x:dk):List dk→List dk
 | []=>[x]
 | y::r=>if vl x y=true then x::y::r else y::wB x r
theorem KQ {x y:dk}:∀ {l:List dk},y∈wB x l↔y=x∨y∈l
 | []=>by simp [wB]
 | z::r=>by
  unfold wB
  split
  · simp
  · rw [List.mem_cons,KQ,List.mem_cons]
    constructor
    · rintro (h|h|h)
      · exact .inr (.inl h)
      · exact .inl h
      · exact .inr (.inr h)
    · rintro (h|h|h)
      · exact .inr (.inl h)
      · exact .inl h
      · exact .inr (.inr h)
theorem SZ {x:dk}:∀ {l:List dk},l.Pairwise sM→x∉l→(wB x l).Pairwise sM
 | [],_,_=>by simp [wB]
 | z::r,h,ad=>by
  rw [List.pairwise_cons] at h
  unfold wB
  split
  · rename_i a'
    refine List.pairwise_cons.2 ⟨fun y av=>?_,List.pairwise_cons.2 h⟩
    rcases List.mem_cons.1 av with rfl|av
    · exact a'
    · exact ac5 a' (h.1 y av)
  · rename_i a'
    refine List.pairwise_cons.2 ⟨fun y av=>?_,SZ h.2 fun hm=>ad (by simp [hm])⟩
    rcases KQ.1 av with rfl|av
    · exact ac7 a' fun e=>ad (by simp [e])
    · exact h.1 y av
def tO (s:ag) (k:Int) (out:List dk) (w:ag):List dk:=if 0≤sL w s∧sL w s≤k then wB ⟨sL w s,w⟩ out else out
def KR (words:List ag) (s:ag) (k:Int):List dk:=words.foldl (tO s k) []
theorem ac8 {s:ag} {k:Int} {out:List dk} {w:ag} (h:0≤sL w s) (aa:sL w s≤k):tO s k out w=wB ⟨sL w s,w⟩ out:=by unfold tO; rw [if_pos ⟨h,aa⟩]
theorem ac9 {s:ag} {k:Int} {out:List dk} {w:ag} (h:¬ (0≤sL w s∧sL w s≤k)):tO s k out w=out:=by unfold tO; rw [if_neg h]
theorem aku {s:ag} {k:Int}:∀ {words:List ag},words.Nodup→(KR words s k).Pairwise sM∧∀ x,x∈KR words s k↔x.word∈words∧x.cd=sL x.word s∧0≤x.cd∧x.cd≤k:=by
 intro words;unfold KR;refine ac3 (p:=fun words=>words.Nodup→(words.foldl (tO s k) []).Pairwise sM∧∀ x,x∈words.foldl (tO s k) []↔x.word∈words∧x.cd=sL x.word s∧0≤x.cd∧x.cd≤k) ?_ ?_ words
 · intro _; simp
 · intro l w bq aI;rw [List.nodup_append] at aI;obtain ⟨h1,_,aq⟩:=aI;obtain ⟨p5,i2⟩:=bq h1;have hw:w∉l:=fun h=>aq w h w (by simp) rfl
   rw [List.foldl_append];show (tO s k (l.foldl (tO s k) []) w).Pairwise sM∧∀ x,x∈tO s k (l.foldl (tO s k) []) w↔_;by_cases an:0≤sL w s∧sL w s≤k
   · rw [ac8 an.1 an.2];refine ⟨SZ p5 fun h=>hw ((i2 _).1 h).1,fun x=>?_⟩;rw [KQ,i2];constructor
     · rintro (rfl|⟨h1,aa⟩)
       · exact ⟨by simp,rfl,an.1,an.2⟩
       · exact ⟨by simp [h1],aa⟩
     · rintro ⟨h1,aa,a6⟩;rcases List.mem_append.1 h1 with h1|h1
       · exact .inr ⟨h1,aa,a6⟩
       · simp only [List.mem_singleton] at h1;refine .inl ?_;cases x;simp only at *;subst h1; rw [aa]
   · rw [ac9 an];refine ⟨p5,fun x=>?_⟩;rw [i2];constructor
     · rintro ⟨h1,aa⟩; exact ⟨by simp [h1],aa⟩
     · rintro ⟨h1,aa,a6⟩;rcases List.mem_append.1 h1 with h1|h1
       · exact ⟨h1,aa,a6⟩
       · simp only [List.mem_singleton] at h1;rw [h1] at aa;exact absurd ⟨by rw [←aa]; exact a6.1,by rw [←aa]; exact a6.2⟩ an
end Go.ab
set_option linter.unusedSectionVars false
namespace Go.aA
open Go Go.MapKept
section
variable {P:Program} {E:Env} {C:World→Prop} {d:Option Tmp} {ty:TypeId} {pos:String} {af:Array Edge} {gd:Option (Nat×Bool)} {w:World} {K:Value→World→Prop}
variable {α β:Type} [DecidableEq α] {key:α→Value} {val:β→Value} {kind:TypeDesc}
def kg:List (α×β)→α→β→List (α×β)
 | [],a,u=>[(a,u)]
 | p::m,a,u=>if p.1=a then (a,u)::m else p::kg m a u
def lU:List (α×β)→α→List (α×β)
 | [],_=>[]
 | p::m,a=>if p.1=a then m else p::lU m a
def jV (key:α→Value) (val:β→Value) (w:World) (b:Nat) (m:List (α×β)):Prop:=
 ∃ es clock,w.heap[b]?=some (.map es clock)∧Stamped es clock∧es.toList.map (fun e=>(e.key,e.val))=m.map fun p=>(key p.1,val p.2)
theorem jV.o {b:Nat} {m:List (α×β)} (h:jV key val w b m):lO key val w b m:=by
 obtain ⟨es,c,h1,_,aa⟩:=h;exact ⟨es,c,h1,aa⟩
theorem jV.lt {b:Nat} {m:List (α×β)} (h:jV key val w b m):b < w.heap.size:=h.o.lt
theorem jV.keep {M:Nat→Prop} {ah:World} {b:Nat} {m:List (α×β)} (h:jV key val w b m) (hm:Mod M w ah) (U:¬ M b):jV key val ah b m:=by
 obtain ⟨es,c,h1,aa,aq⟩:=h;exact ⟨es,c,hm.keep _ _ h1 U,aa,aq⟩
structure S0 (P:Program) (ei:TypeId) (key:α→Value):Prop extends KeyOk P ei key where
 bits:∀ a,Instr.sameBits 10000 (key a) (key a)=true
theorem ac_ {ei:TypeId} (h:P.underlying ei=some (.int .i64)):S0 P ei fo:=⟨tD h,fun a=>by simp [fo,Instr.sameBits]⟩
theorem KeyOk.inj {ei:TypeId} (h:KeyOk P ei key) {a b:α} (e:key a=key b):a=b:=by
 obtain ⟨kind,_,aF⟩:=h.same;have h1:=aF b a;rw [e] at h1;rw [aF b b] at h1;simp only [Option.some.injEq,decide_true] at h1;exact (of_decide_eq_true h1.symm).symm
theorem ac' (a:α):fH ([]:List (α×β)) a=none:=rfl
theorem oE (p:α×β) (m:List (α×β)) (a:α):fH (p::m) a=if p.1=a then some p.2 else fH m a:=by
 unfold fH;rw [List.find?_cons];by_cases h:p.1=a
 · simp [h]
 · simp [h]
theorem S1 (aF:∀ a b:α,Instr.sameNow kind (key a) (key b)=some (decide (a=b))) (a:α):∀ (es:List MapEntry) (m:List (α×β)) (i:Nat),es.map (fun e=>(e.key,e.val))=m.map (fun p=>(key p.1,val p.2)) →
 (fH m a=none∧Instr.findNow kind (key a) es i=some none∧(∀ u,kg m a u=m++[(a,u)])∧lU m a=m∧∀ p∈m,p.1≠a) ∨
 (∃ j ec i7,fH m a=some ec∧es[j]?=some i7∧i7.key=key a∧Instr.findNow kind (key a) es i=some (some (i+j,val ec)) ∧
  (∀ u,(es.modify j fun e=>{ e with key:=key a,val:=val u }).map (fun e=>(e.key,e.val))=(kg m a u).map fun p=>(key p.1,val p.2)) ∧
  (es.eraseIdx j).map (fun e=>(e.key,e.val))=(lU m a).map fun p=>(key p.1,val p.2))
 | [],m,i,h=>by
  cases m with
  | nil=>exact .inl ⟨rfl,rfl,fun _=>rfl,rfl,by simp⟩
  | cons _ _=>simp at h
 | e::es,m,i,h=>by
  cases m with
  | nil=>simp at h
  | cons p m =>
   simp only [List.map_cons,List.cons.injEq,Prod.mk.injEq] at h
   obtain ⟨⟨h1,aa⟩,aq⟩:=h
   by_cases hp:p.1=a
   · refine .inr ⟨0,p.2,e,?_,rfl,by rw [h1,hp],?_,fun u=>?_,?_⟩
     · rw [oE,if_pos hp]
     · unfold Instr.findNow
       rw [h1,aF a p.1,decide_eq_true hp.symm,aa]; rfl
     · simp [kg,hp,aq]
     · simp [lU,hp,aq]
   · have zg:¬ (a=p.1):=fun e=>hp e.symm
     rcases S1 aF a es m (i+1) aq with ⟨ea,q2,fb,fT,gK⟩|⟨j,ec,i7,ea,q2,fb,fT,gK,mQ⟩
     · refine .inl ⟨?_,?_,fun u=>?_,?_,?_⟩
       · rw [oE,if_neg hp]; exact ea
       · unfold Instr.findNow
         rw [h1,aF a p.1,decide_eq_false zg]; exact q2
       · simp [kg,hp,fb]
       · simp [lU,hp,fT]
       · intro x ad
         rcases List.mem_cons.1 ad with rfl|ad
         · exact hp
         · exact gK x ad
     · refine .inr ⟨j+1,ec,i7,?_,q2,fb,?_,fun u=>?_,?_⟩
       · rw [oE,if_neg hp]; exact ea
       · unfold Instr.findNow
         rw [h1,aF a p.1,decide_eq_false zg]
         simp only [fT]
         congr 3; omega
       · simp [kg,hp,h1,aa,gK]
       · simp [lU,hp,h1,aa,mQ]
theorem ada {ei:TypeId} (hk:KeyOk P ei key) (a:α) {es:Array MapEntry} {m:List (α×β)} (h:es.toList.map (fun e=>(e.key,e.val))=m.map (fun p=>(key p.1,val p.2))) (w:World) :
 (fH m a=none∧(Instr.findKey ei (key a) es.toList).run P w=.ok none w∧(∀ u,kg m a u=m++[(a,u)])∧lU m a=m∧∀ x∈es.toList,x.key≠key a) ∨
 (∃ j ec i7,fH m a=some ec∧es[j]?=some i7∧i7.key=key a∧(Instr.findKey ei (key a) es.toList).run P w=.ok (some (j,val ec)) w ∧
  (∀ u,(es.modify j fun e=>{ e with key:=key a,val:=val u }).toList.map (fun e=>(e.key,e.val))=(kg m a u).map fun p=>(key p.1,val p.2)) ∧
  (es.eraseIdxIfInBounds j).toList.map (fun e=>(e.key,e.val))=(lU m a).map fun p=>(key p.1,val p.2)):=by
 obtain ⟨kind,hu,aF⟩:=hk.same;rcases S1 aF a es.toList m 0 h with ⟨ea,q2,fb,fT,gK⟩|⟨j,ec,i7,ea,q2,fb,fT,gK,mQ⟩
 · refine .inl ⟨ea,?_,fb,fT,fun x ad e=>?_⟩
   · unfold Instr.findKey;simp only [Sem.run_bind,run_underlying hu,Result.andThen_ok,q2,Sem.run_pure]
   · have:(x.key,x.val)∈m.map (fun p=>(key p.1,val p.2)):=by
      rw [←h]; exact List.mem_map.2 ⟨x,ad,rfl⟩
     obtain ⟨p,hp,he⟩:=List.mem_map.1 this;simp only [Prod.mk.injEq] at he;exact gK p hp (hk.inj (he.1.trans e))
 · rw [Array.getElem?_toList] at q2;have aS:j < es.size:=(Array.getElem?_eq_some_iff.1 q2).1;refine .inr ⟨j,ec,i7,ea,q2,fb,?_,fun u=>?_,?_⟩
   · unfold Instr.findKey;simp only [Sem.run_bind,run_underlying hu,Result.andThen_ok,fT,Sem.run_pure,Nat.zero_add]
   · rw [Array.toList_modify]; exact gK u
   · unfold Array.eraseIdxIfInBounds;rw [dif_pos aS,Array.toList_eraseIdx]; exact mQ
theorem Bv {w:World} {b:Nat} {o Jv:Obj} (h:w.heap[b]?=some o):(w.heap.setIfInBounds b Jv)[b]?=some Jv:=by
 have:=(Array.getElem?_eq_some_iff.1 h).1;simp [this]
theorem gl.adb {t ei h7:TypeId} {x y z:Operand} {b:Nat} {m:List (α×β)} (a:α) (u:β) (hk:S0 P ei key) (aQ:P.underlying t=some (.map ei h7)) (ad:aC E x=some (.map (some b))) (av:aC E y=some (key a)) (b':aC E z=some (val u)) (hm:jV key val w b m)
 (eC:∀ ah,Mod (b5 (b+1)) w ah→ah.heap.size=w.heap.size→jV key val ah b (kg m a u)→K undef ah):gl P ⟨d,.mapUpdate t x y z,ty,pos,af,gd⟩ E w K:=fun s ao=>by
 obtain ⟨es,c,h1,aa,aq⟩:=hm
 have aO:=xA (P:=P) h1
 rcases ada (P:=P) hk.toKeyOk a aq w with ⟨ea,q2,fb,fT,gK⟩|⟨j,ec,i7,ea,q2,fb,fT,gK,mQ⟩
 · have h:=eC _ (zh w b (.map (es.push { key:=key a,val:=val u,born:=c }) (c+1))) (by simp) ⟨es.push { key:=key a,val:=val u,born:=c },c+1,Bv h1,stamped_push aa gK,by
    rw [fb u]; simp [aq]⟩
   simp [execOp,ao.aC ad,ao.aC av,ao.aC b',Instr.mapUpdate,run_underlying aQ,aO,hk.pt,q2,setObj,Sem.run,h1,out]
   exact h
 · have lk:Stamped (es.modify j fun e=>{ e with key:=key a,val:=val u }) c:=stamped_modify aa j _ (fun _ _=>rfl) fun e _ he=>by
    rw [q2] at he; cases he; exact fb.symm
   have h:=eC _ (zh w b (.map (es.modify j fun e=>{ e with key:=key a,val:=val u }) c)) (by simp) ⟨_,c,Bv h1,lk,gK u⟩
   have qT:Instr.keyThatStays (key a) (key a)=(pure (key a):Sem Value):=by
    unfold Instr.keyThatStays; rw [if_pos (hk.bits a)]
   simp [execOp,ao.aC ad,ao.aC av,ao.aC b',Instr.mapUpdate,run_underlying aQ,aO,hk.pt,fT,q2,fb,qT,setObj,Sem.run,h1,out]
   exact h
theorem gl.S2 {t:TypeId} (eC:∀ ah b,Ext w ah→b=w.heap.size→ah.heap.size=w.heap.size+1→jV key val ah b []→K (.map (some b)) ah):gl P ⟨d,.makeMap t none,ty,pos,af,gd⟩ E w K:=fun s ao=>by
 have h:=eC (w.alloc (.map #[] 0)) w.heap.size (Mod.alloc _ _ _) rfl (by simp) ⟨#[],0,by
  show (w.heap.push _)[w.heap.size]?=_
  simp,stamped_empty 0,by simp⟩
 simp [execOp,Instr.makeMap,newObj,Sem.run,out]
 exact h
end
section
variable {R:Nat→Prop}
def mR {α β:Type} [DecidableEq α] (key:α→Value) (val:β→Value) (b:Nat) (m:List (α×β)):dc R:=⟨fun F w=>jV key val w b m∧F b,fun h hm bO _=>⟨h.1.keep hm (bO b h.2),h.2⟩⟩
variable {bB:Nat→Prop} {w0 w ah:World} {L:List (dc R)} {i:Nat}
theorem ar.mp {α β:Type} [DecidableEq α] {key:α→Value} {val:β→Value} {b:Nat} {m:List (α×β)} (h:ar R bB w0 w L) (al:L[i]?=some (mR key val b m)):jV key val w b m:=by
 obtain ⟨F,h1,_⟩:=h.get al; exact h1.1
theorem ar.Dn {α β:Type} [DecidableEq α] {key:α→Value} {val:β→Value} {b:Nat} {m rF:List (α×β)} (h:ar R bB w0 w L) (al:L[i]?=some (mR key val b m)) (hm:Mod (b5 (b+1)) w ah) (hk:jV key val ah b rF):ar R bB w0 ah (L.set i (mR key val b rF)):=by
 obtain ⟨F,h1,aa,k⟩:=h.act al;exact k ah F _ (JI hm h1.2) ⟨hk,h1.2⟩ fun b U=>⟨Nat.lt_of_lt_of_le (aa b U).2 hm.size,.inl U⟩
theorem ar.S3 {α β:Type} [DecidableEq α] {key:α→Value} {val:β→Value} {b:Nat} {m:List (α×β)} (h:ar R bB w0 w L) (hm:Ext w ah) (U:b=w.heap.size) (hk:jV key val ah b m):ar R bB w0 ah (L++[mR key val b m]):=
 h.new (F:=fun x=>x=b) hm ⟨hk,rfl⟩ fun x ad=>by have:=hk.lt; omega
end
end Go.aA
set_option linter.unusedSectionVars false
namespace Go.aA
open Go
section
variable {P:Program} {E:Env} {C:World→Prop} {d:Option Tmp} {ty:TypeId} {pos:String} {af:Array Edge} {gd:Option (Nat×Bool)} {w:World} {K:Value→World→Prop}
def tP:Option TypeDesc→Bool
 | some (.interface _)=>false
 | some _=>true
 | none=>false
theorem aY.mkIf {t:TypeId} {x:Operand} {v:Value} (aQ:tP (P.underlying t)=true) (ad:aC E x=some v):aY P ⟨d,.makeInterface t x,ty,pos,af,gd⟩ E C (.iface t v):=fun s ao w _=>by
 cases hd:P.underlying t with
 | none=>rw [hd] at aQ; cases aQ
 | some q=>cases q<;>simp_all [execOp,ao.aC ad,Instr.makeInterface,run_underlying hd,tP]
theorem aY.r6 {xt t:TypeId} {x:Operand} {v:Value} (aQ:tP (P.underlying t)=true) (ad:aC E x=some (.iface t v)):aY P ⟨d,.typeAssert x xt t true,ty,pos,af,gd⟩ E C (.tuple #[v,.bool true]):=fun s ao w _=>by
 cases hd:P.underlying t with
 | none=>rw [hd] at aQ; cases aQ
 | some q=>cases q<;>simp_all [execOp,ao.aC ad,Instr.typeAssert,run_underlying hd,tP]
theorem aY.jv {xt t u:TypeId} {x:Operand} {v z:Value} (aQ:tP (P.underlying t)=true) (ad:aC E x=some (.iface u v)) (cA:u≠t) (b':∀ w,(zeroValue t).run P w=.ok z w):aY P ⟨d,.typeAssert x xt t true,ty,pos,af,gd⟩ E C (.tuple #[z,.bool false]):=fun s ao w _=>by
 cases hd:P.underlying t with
 | none=>rw [hd] at aQ; cases aQ
 | some q=>cases q<;>simp_all [execOp,ao.aC ad,Instr.typeAssert,run_underlying hd,tP]
end
end Go.aA
namespace Go.aA
open Go Go.MapKept
section
variable {P:Program} {E:Env} {C:World→Prop} {d:Option Tmp} {ty:TypeId} {pos:String} {af:Array Edge} {gd:Option (Nat×Bool)} {w:World} {K:Value→World→Prop}
variable {α β:Type} [DecidableEq α] {key:α→Value} {val:β→Value}
structure sN (P:Program) (ei:TypeId) (key:α→Value):Prop where
 pt:∀ (e:Bool) (a:α) (w:World),(Instr.checkKey e 10000 ei (key a)).run P w=.ok () w
 bits:∀ a,Instr.sameBits 10000 (key a) (key a)=true
 ade:∃ kind,P.underlying ei=some kind∧∀ a b:α,Instr.sameNow kind (key a) (key b)=none
 eq:∀ (a b:α) (w:World),(Op.equal ei (key a) (key b)).run P w=.ok (decide (a=b)) w
theorem sN.inj {ei:TypeId} (h:sN P ei key) {a b:α} (e:key a=key b):a=b:=by
 have h1:=h.eq a b default;rw [e,h.eq b b] at h1;simp only [Result.ok.injEq,decide_true] at h1;exact of_decide_eq_true h1.1.symm
theorem S4 {ei:TypeId} (hk:sN P ei key) (a:α) (w:World):∀ (es:List MapEntry) (m:List (α×β)) (i:Nat),es.map (fun e=>(e.key,e.val))=m.map (fun p=>(key p.1,val p.2)) →
 (fH m a=none∧(Instr.findAsking ei (key a) es i).run P w=.ok none w∧(∀ u,kg m a u=m++[(a,u)])∧lU m a=m∧∀ p∈m,p.1≠a) ∨
 (∃ j ec i7,fH m a=some ec∧es[j]?=some i7∧i7.key=key a∧(Instr.findAsking ei (key a) es i).run P w=.ok (some (i+j,val ec)) w ∧
  (∀ u,(es.modify j fun e=>{ e with key:=key a,val:=val u }).map (fun e=>(e.key,e.val))=(kg m a u).map fun p=>(key p.1,val p.2)) ∧
  (es.eraseIdx j).map (fun e=>(e.key,e.val))=(lU m a).map fun p=>(key p.1,val p.2))
 | [],m,i,h=>by
  cases m with
  | nil=>exact .inl ⟨rfl,rfl,fun _=>rfl,rfl,by simp⟩
  | cons _ _=>simp at h
 | e::es,m,i,h=>by
  cases m with
  | nil=>simp at h
  | cons p m =>
   simp only [List.map_cons,List.cons.injEq,Prod.mk.injEq] at h
   obtain ⟨⟨h1,aa⟩,aq⟩:=h
   by_cases hp:p.1=a
   · refine .inr ⟨0,p.2,e,?_,rfl,by rw [h1,hp],?_,fun u=>?_,?_⟩
     · rw [oE,if_pos hp]
     · unfold Instr.findAsking
       rw [h1,aa]
       simp only [Sem.run_bind,hk.eq a p.1 w,decide_eq_true hp.symm,Result.andThen_ok,if_true,Sem.run_pure,Nat.add_zero]
     · simp [kg,hp,aq]
     · simp [lU,hp,aq]
   · have zg:¬ (a=p.1):=fun e=>hp e.symm
     rcases S4 hk a w es m (i+1) aq with ⟨ea,q2,fb,fT,gK⟩|⟨j,ec,i7,ea,q2,fb,fT,gK,mQ⟩
     · refine .inl ⟨?_,?_,fun u=>?_,?_,?_⟩
       · rw [oE,if_neg hp]; exact ea
       · unfold Instr.findAsking
         rw [h1]
         simp only [Sem.run_bind,hk.eq a p.1 w,decide_eq_false zg,Result.andThen_ok,Bool.false_eq_true,if_false]
         exact q2
       · simp [kg,hp,fb]
       · simp [lU,hp,fT]
       · intro x ad
         rcases List.mem_cons.1 ad with rfl|ad
         · exact hp
         · exact gK x ad
     · refine .inr ⟨j+1,ec,i7,?_,q2,fb,?_,fun u=>?_,?_⟩
       · rw [oE,if_neg hp]; exact ea
       · unfold Instr.findAsking
         rw [h1]
         simp only [Sem.run_bind,hk.eq a p.1 w,decide_eq_false zg,Result.andThen_ok,Bool.false_eq_true,if_false]
         rw [fT]; congr 3; omega
       · simp [kg,hp,h1,aa,gK]
       · simp [lU,hp,h1,aa,mQ]
theorem GX {ei:TypeId} (hk:sN P ei key) (a:α) {es:Array MapEntry} {m:List (α×β)} (h:es.toList.map (fun e=>(e.key,e.val))=m.map (fun p=>(key p.1,val p.2))) (w:World) :
 (fH m a=none∧(Instr.findKey ei (key a) es.toList).run P w=.ok none w∧(∀ u,kg m a u=m++[(a,u)])∧lU m a=m∧∀ x∈es.toList,x.key≠key a) ∨
 (∃ j ec i7,fH m a=some ec∧es[j]?=some i7∧i7.key=key a∧(Instr.findKey ei (key a) es.toList).run P w=.ok (some (j,val ec)) w ∧
  (∀ u,(es.modify j fun e=>{ e with key:=key a,val:=val u }).toList.map (fun e=>(e.key,e.val))=(kg m a u).map fun p=>(key p.1,val p.2)) ∧
  (es.eraseIdxIfInBounds j).toList.map (fun e=>(e.key,e.val))=(lU m a).map fun p=>(key p.1,val p.2)):=by
 obtain ⟨kind,hu,aF⟩:=hk.ade
 have S5:(Instr.findKey ei (key a) es.toList).run P w=(Instr.findAsking ei (key a) es.toList 0).run P w:=by
  unfold Instr.findKey
  simp only [Sem.run_bind,run_underlying hu,Result.andThen_ok]
  cases adf:es.toList with
  | nil=>rfl
  | cons e r =>
   have cA:Instr.findNow kind (key a) (e::r) 0=none:=by
    unfold Instr.findNow
    rw [adf] at h
    cases m with
    | nil=>simp at h
    | cons p m =>
     simp only [List.map_cons,List.cons.injEq,Prod.mk.injEq] at h
     rw [h.1.1,aF]
   rw [cA]
 rcases S4 hk a w es.toList m 0 h with ⟨ea,q2,fb,fT,gK⟩|⟨j,ec,i7,ea,q2,fb,fT,gK,mQ⟩
 · refine .inl ⟨ea,S5.trans q2,fb,fT,fun x ad e=>?_⟩
   have:(x.key,x.val)∈m.map (fun p=>(key p.1,val p.2)):=by
    rw [←h]; exact List.mem_map.2 ⟨x,ad,rfl⟩
   obtain ⟨p,hp,he⟩:=List.mem_map.1 this;simp only [Prod.mk.injEq] at he;exact gK p hp (hk.inj (he.1.trans e))
 · rw [Array.getElem?_toList] at q2;have aS:j < es.size:=(Array.getElem?_eq_some_iff.1 q2).1;refine .inr ⟨j,ec,i7,ea,q2,fb,?_,fun u=>?_,?_⟩
   · rw [S5,fT,Nat.zero_add]
   · rw [Array.toList_modify]; exact gK u
   · unfold Array.eraseIdxIfInBounds;rw [dif_pos aS,Array.toList_eraseIdx]; exact mQ
theorem gl.KS {t ei h7:TypeId} {x y z:Operand} {b:Nat} {m:List (α×β)} (a:α) (u:β) (hk:sN P ei key) (aQ:P.underlying t=some (.map ei h7)) (ad:aC E x=some (.map (some b))) (av:aC E y=some (key a)) (b':aC E z=some (val u)) (hm:jV key val w b m)
 (eC:∀ ah,Mod (b5 (b+1)) w ah→ah.heap.size=w.heap.size→jV key val ah b (kg m a u)→K undef ah):gl P ⟨d,.mapUpdate t x y z,ty,pos,af,gd⟩ E w K:=fun s ao=>by
 obtain ⟨es,c,h1,aa,aq⟩:=hm
 have aO:=xA (P:=P) h1
 rcases GX (P:=P) hk a aq w with ⟨ea,q2,fb,fT,gK⟩|⟨j,ec,i7,ea,q2,fb,fT,gK,mQ⟩
 · have h:=eC _ (zh w b (.map (es.push { key:=key a,val:=val u,born:=c }) (c+1))) (by simp) ⟨es.push { key:=key a,val:=val u,born:=c },c+1,Bv h1,stamped_push aa gK,by
    rw [fb u]; simp [aq]⟩
   simp [execOp,ao.aC ad,ao.aC av,ao.aC b',Instr.mapUpdate,run_underlying aQ,aO,hk.pt,q2,setObj,Sem.run,h1,out]
   exact h
 · have lk:Stamped (es.modify j fun e=>{ e with key:=key a,val:=val u }) c:=stamped_modify aa j _ (fun _ _=>rfl) fun e _ he=>by
    rw [q2] at he; cases he; exact fb.symm
   have h:=eC _ (zh w b (.map (es.modify j fun e=>{ e with key:=key a,val:=val u }) c)) (by simp) ⟨_,c,Bv h1,lk,gK u⟩
   have qT:Instr.keyThatStays (key a) (key a)=(pure (key a):Sem Value):=by
    unfold Instr.keyThatStays; rw [if_pos (hk.bits a)]
   simp [execOp,ao.aC ad,ao.aC av,ao.aC b',Instr.mapUpdate,run_underlying aQ,aO,hk.pt,fT,q2,fb,qT,setObj,Sem.run,h1,out]
   exact h
theorem gl.adg {t ei h7:TypeId} {lI:Array TypeId} {x y:Operand} {b:Nat} {m:List (α×β)} (a:α) (hk:sN P ei key) (aQ:P.underlying t=some (.map ei h7)) (S6:lI[0]?=some t) (ad:aC E x=some (.map (some b))) (av:aC E y=some (key a)) (hm:jV key val w b m)
 (eC:∀ ah,Mod (b5 (b+1)) w ah→ah.heap.size=w.heap.size→jV key val ah b (lU m a)→K (.tuple #[]) ah):gl P ⟨d,.call { callee:=.builtin .delete,args:=#[x,y],argTypes:=lI },ty,pos,af,gd⟩ E w K:=fun s ao=>by
 obtain ⟨es,c,h1,aa,aq⟩:=hm
 have aO:=xA (P:=P) h1
 rcases GX (P:=P) hk a aq w with ⟨ea,q2,fb,fT,gK⟩|⟨j,ec,i7,ea,q2,fb,fT,gK,mQ⟩
 · have h:=eC _ (zh w b (.map es c)) (by simp) ⟨es,c,Bv h1,aa,by rw [fT]; exact aq⟩
   simp [execOp,resolve,invoke,builtin,ao.aC ad,ao.aC av,Builtin.delete_,S6,run_underlying aQ,aO,hk.pt,q2,setObj,Sem.run,h1,out]
   exact h
 · have h:=eC _ (zh w b (.map (es.eraseIdxIfInBounds j) c)) (by simp) ⟨_,c,Bv h1,stamped_erase aa j,mQ⟩
   simp [execOp,resolve,invoke,builtin,ao.aC ad,ao.aC av,Builtin.delete_,S6,run_underlying aQ,aO,hk.pt,fT,setObj,Sem.run,h1,out]
   exact h
theorem aY.S7 {t ei h7:TypeId} {x y:Operand} {b:Nat} {m:List (α×β)} {a:α} {z:Value} (hk:sN P ei key) (aQ:P.underlying t=some (.map ei h7)) (b':∀ w,(zeroValue h7).run P w=.ok z w) (ad:aC E x=some (.map (some b))) (av:aC E y=some (key a)) (hm:∀ w,C w→jV key val w b m) :
 aY P ⟨d,.lookup t x y true,ty,pos,af,gd⟩ E C (.tuple #[(match fH m a with|some u=>val u|none=>z),.bool (fH m a).isSome]):=fun s ao w hC=>by
 obtain ⟨es,c,h1,_,aq⟩:=hm w hC
 have aO:=xA (P:=P) h1
 rcases GX (P:=P) hk a aq w with ⟨ea,q2,fb,fT,gK⟩|⟨j,ec,i7,ea,q2,fb,fT,gK,mQ⟩
 · simp [execOp,ao.aC ad,ao.aC av,Instr.lookup,run_underlying aQ,aO,hk.pt,q2,b',ea]
 · simp [execOp,ao.aC ad,ao.aC av,Instr.lookup,run_underlying aQ,aO,hk.pt,fT,ea]
theorem aY.adh {t ei h7:TypeId} {x y:Operand} {b:Nat} {m:List (α×β)} {a:α} {z:Value} (hk:sN P ei key) (aQ:P.underlying t=some (.map ei h7)) (b':∀ w,(zeroValue h7).run P w=.ok z w) (ad:aC E x=some (.map (some b))) (av:aC E y=some (key a)) (hm:∀ w,C w→jV key val w b m) :
 aY P ⟨d,.lookup t x y false,ty,pos,af,gd⟩ E C (match fH m a with|some u=>val u|none=>z):=fun s ao w hC=>by
 obtain ⟨es,c,h1,_,aq⟩:=hm w hC
 have aO:=xA (P:=P) h1
 rcases GX (P:=P) hk a aq w with ⟨ea,q2,fb,fT,gK⟩|⟨j,ec,i7,ea,q2,fb,fT,gK,mQ⟩
 · simp [execOp,ao.aC ad,ao.aC av,Instr.lookup,run_underlying aQ,aO,hk.pt,q2,b',ea]
 · simp [execOp,ao.aC ad,ao.aC av,Instr.lookup,run_underlying aQ,aO,hk.pt,fT,ea]
theorem aY.adi {t ei h7:TypeId} {x y:Operand} {b:Nat} {m:List (α×β)} {a:α} {z:Value} {u:β} (hk:sN P ei key) (aQ:P.underlying t=some (.map ei h7)) (b':∀ w,(zeroValue h7).run P w=.ok z w) (ad:aC E x=some (.map (some b))) (av:aC E y=some (key a)) (hm:∀ w,C w→jV key val w b m) (ao:fH m a=some u) :
 aY P ⟨d,.lookup t x y false,ty,pos,af,gd⟩ E C (val u):=by
 have h:=aY.adh (d:=d) (ty:=ty) (pos:=pos) (af:=af) (gd:=gd) (val:=val) hk aQ b' ad av hm;rw [ao] at h; exact h
theorem aY.adj {t ei h7:TypeId} {x y:Operand} {b:Nat} {m:List (α×β)} {a:α} {z:Value} {u:β} (hk:sN P ei key) (aQ:P.underlying t=some (.map ei h7)) (b':∀ w,(zeroValue h7).run P w=.ok z w) (ad:aC E x=some (.map (some b))) (av:aC E y=some (key a)) (hm:∀ w,C w→jV key val w b m) (ao:fH m a=some u) :
 aY P ⟨d,.lookup t x y true,ty,pos,af,gd⟩ E C (.tuple #[val u,.bool true]):=by
 have h:=aY.S7 (d:=d) (ty:=ty) (pos:=pos) (af:=af) (gd:=gd) (val:=val) hk aQ b' ad av hm;rw [ao] at h; exact h
theorem aY.adk {t ei h7:TypeId} {x y:Operand} {b:Nat} {m:List (α×β)} {a:α} {z:Value} (hk:sN P ei key) (aQ:P.underlying t=some (.map ei h7)) (b':∀ w,(zeroValue h7).run P w=.ok z w) (ad:aC E x=some (.map (some b))) (av:aC E y=some (key a)) (hm:∀ w,C w→jV key val w b m) (ao:fH m a=none) :
 aY P ⟨d,.lookup t x y true,ty,pos,af,gd⟩ E C (.tuple #[z,.bool false]):=by
 have h:=aY.S7 (d:=d) (ty:=ty) (pos:=pos) (af:=af) (gd:=gd) (val:=val) hk aQ b' ad av hm;rw [ao] at h; exact h
end
end Go.aA
set_option linter.unusedSectionVars false
namespace Go.aA
open Go
section
variable {α:Type}
def kM (enc:α→List Value) (e:TypeId) (sz:Nat) (w:World) (g:Nat) (v:Value) (l:List α):Prop:=
 (∃ a,v=.slice a 0 0∧l=[]∧g=0) ∨
 ∃ b off cap X Y,g=b+1∧v=.slice (some ⟨b,off*sz,none⟩) l.length cap∧w.heap[b]?=some (.cells (X++l.flatMap enc++Y).toArray e (0,0))∧X.length=off*sz∧l.length≤cap∧Y.length=(cap-l.length)*sz∧off+cap≤maxLen
variable {enc:α→List Value} {e:TypeId} {sz:Nat} {w:World} {g:Nat} {v:Value} {l:List α}
theorem kM.nil:kM enc e sz w 0 (.slice none 0 0) []:=.inl ⟨_,rfl,rfl,rfl⟩
theorem kM.keep {M:Nat→Prop} {ah:World} (h:kM enc e sz w g v l) (hm:Mod M w ah) (aO:∀ b,g=b+1→¬ M b):kM enc e sz ah g v l:=by
 rcases h with h|⟨b,off,cap,X,Y,a8,h1,aa,aq⟩
 · exact .inl h
 · exact .inr ⟨b,off,cap,X,Y,a8,h1,hm.keep _ _ aa (aO b a8),aq⟩
theorem kM.lt (h:kM enc e sz w g v l):g≤w.heap.size:=by
 rcases h with ⟨_,_,_,h⟩|⟨b,off,cap,X,Y,a8,_,aa,_⟩
 · omega
 · have:=(Array.getElem?_eq_some_iff.1 aa).1; omega
theorem kM.bl (h:kM enc e sz w g v l):ak enc w (aR (g-1) g) v l:=by
 rcases h with ⟨a,h,gx,_⟩|⟨b,off,cap,X,Y,a8,h1,aa,aq,a6,bT,ed⟩
 · subst gx; subst h;exact ⟨a,0,rfl,Nat.le_refl _,Nat.zero_le _,.inl rfl⟩
 · refine ⟨_,cap,h1,a6,by omega,.inr ⟨b,off*sz,rfl,by unfold aR; omega,fun i u hu=>?_⟩⟩;rw [cell_of_row w b _ _ e (0,0) aa];rw [List.getElem?_toArray,List.append_assoc,List.getElem?_append_right (by omega),show off*sz+i-X.length=i from by omega,List.getElem?_append_left (List.getElem?_eq_some_iff.1 hu).1];exact hu
theorem adl {P:Program} {b:Nat} {e:TypeId} {w:World} {A B C vs:List Value} (h:w.heap[b]?=some (.cells (A++B++C).toArray e (0,0))) (a':vs.length=B.length) (h1:∀ v∈vs,v.oneCell'=true) :
 ∃ ah,(storeCells ⟨b,A.length,none⟩ vs).run P w=.ok () ah∧ah.heap[b]?=some (.cells (A++vs++C).toArray e (0,0))∧Mod (fun i=>i=b) w ah∧ah.heap.size=w.heap.size:=by
 have lk:=run_storeCells_at P b A.length e vs 0 _ w h (by simp [a']) h1;refine ⟨_,lk,?_,Fh _ _ _,by simp [World.setRow]⟩;rw [setRow_heap w b _ _ e _ h];congr 3
 simp only [Nat.add_zero,List.append_assoc,List.take_left];congr 1
 congr 1
 rw [show A.length+vs.length=(A++B).length from by rw [List.length_append,a'],←List.append_assoc,List.drop_left]
theorem kM.append {P:Program} (h:kM enc e sz w g v l) {t ty:TypeId} {fv:Bool} {by_:Nat} {z:List Value} (aQ:P.underlying t=some (.slice e)) (he:dX P e=some (fv,sz,by_,z)) (b':z.length=sz)
 (dr:∀ x,(enc x).length=sz) (h1:∀ x,(enc x).all (·.oneCell')=true) {F:Nat→Prop} {v2:Value} {c5:List α} (aF:ak enc w F v2 c5) (cA:c5≠[]) (vY:(l.length+c5.length)*by_≤140737488355328) (su:l.length+c5.length≤maxLen) :
 ∃ g_ e' ah,(Builtin.append_ #[t,t] ty #[v,v2]).run P w=.ok g_ ah∧kM enc e sz ah e' g_ (l++c5)∧Mod (b5 g) w ah∧(e'=g∨w.heap.size < e'):=by
 obtain ⟨i,hG,js,p5,i2,i3,i4,i5,Cu,Ow⟩:=AI he
 have Fi:∀ u∈c5.flatMap enc,u.oneCell'=true:=fun u hu=>by
  obtain ⟨x,_,ad⟩:=List.mem_flatMap.1 hu
  exact List.all_eq_true.1 (h1 x) u ad
 have dG:(c5.flatMap enc).length=c5.length*i.size:=(by rw [ts dr,i4]);have pk:(l.flatMap enc).length=l.length*i.size:=(by rw [ts dr,i4]);have vX:js.cells.size=sz:=(by rw [←Array.length_toList,Cu,b']);have Ox:l.length+c5.length≤9223372036854775807:=su;have Dc:1≤c5.length:=(by cases c5<;>simp_all);obtain ⟨a2,xg,rfl,p6,ax,aF⟩:=aF
 obtain ⟨aN,nj,rfl,bO,c_⟩:∃ aN nj,a2=some (⟨aN,nj,none⟩:Addr)∧F aN∧Row w aN nj (c5.flatMap enc):=by
  rcases aF with h|⟨aN,nj,h1,aa,aq⟩
  · exact absurd h cA
  · exact ⟨aN,nj,h1,aa,aq⟩
 have Cv:∀ j u,(c5.flatMap enc)[j]?=some u→w.cell? ((⟨aN,nj,none⟩:Addr).add j)=some u:=fun j u hu=>by
  rw [add_lit]; exact c_.cell j u hu
 have KT:Src P i.size t (.slice (some ⟨aN,nj,none⟩) c5.length xg) c5.length (c5.flatMap enc) w:=Src.ofSlice w aQ _ _ _ _ dG Cv Fi
 have fresh:∀ (nk:Nat),nk < l.length+c5.length→∀ aZ:World,aZ=w.drew.alloc (.cells ((l.flatMap enc++c5.flatMap enc).toArray++Builtin.zeroCells js.cells (grownCap w (l.length+c5.length) nk e-(l.length+c5.length))) e) →
  kM enc e sz aZ (w.heap.size+1) (.slice (some ⟨w.heap.size,0,none⟩) (l.length+c5.length) (grownCap w (l.length+c5.length) nk e)) (l++c5)∧Mod (b5 g) w aZ:=by
  intro nk dJ aZ eL
  subst eL
  have xi:=grownCap_ge w (l.length+c5.length) nk e
  have xj:grownCap w (l.length+c5.length) nk e≤maxLen:=grownCap_le_maxLen w (l.length+c5.length) nk e su
  refine ⟨.inr ⟨w.heap.size,0,_,[],(Builtin.zeroCells js.cells (grownCap w (l.length+c5.length) nk e-(l.length+c5.length))).toList,rfl,by rw [List.length_append,Nat.zero_mul],?_,by simp,by rw [List.length_append]; exact xi,?_,by omega⟩,?_⟩
  · refine (heap_alloc_new w.drew _).trans ?_
    congr 2
    apply Array.ext'
    simp [List.flatMap_append]
  · rw [Array.length_toList,size_zeroCells,vX,List.length_append]
  · exact (Mod.drew _ w).trans (Mod.alloc _ _ _)
 rcases h with ⟨a,rfl,rfl,rfl⟩|⟨b,off,cap,X,Y,rfl,rfl,aO,wm,AL,Dp,xj⟩
 · have hold:(Builtin.firstCells i.size 0 (.slice a 0 0)).run P w.drew=.ok (#[]:Array Value) w.drew:=by
    cases a<;>simp [Builtin.firstCells,loadCells,loadCellsFrom]
   have xk:c5.length*i.bytes≤140737488355328:=by
    have U:=vY; simp only [List.length_nil,Nat.zero_add] at U; rw [i5]; exact U
   have aB:=run_append_grow_src (P:=P) w t t ty e i js aQ p5 i3 a 0 0 [] hold _ _ _ KT (by omega) (by omega) (growslice_fits (by omega) (by simpa using xk));have bd:=fresh 0 (by simp; omega) _ rfl;simp only [List.length_nil,Nat.zero_add,List.flatMap_nil,List.nil_append] at bd aB;exact ⟨_,_,_,aB,bd.1,bd.2,.inr (Nat.lt_succ_self _)⟩
 · by_cases AM:l.length+c5.length≤cap
   · have aI:(c5.flatMap enc).length≤Y.length:=by
      rw [dG,Dp,i4]; exact Nat.mul_le_mul_right _ (by omega)
     obtain ⟨ah,ea,q2,fb,fT⟩:=adl (P:=P) (A:=X++l.flatMap enc) (B:=Y.take (c5.flatMap enc).length) (C:=Y.drop (c5.flatMap enc).length) (vs:=c5.flatMap enc) (b:=b) (e:=e) (w:=w) (by rw [List.append_assoc _ _ (Y.drop _),List.take_append_drop]; exact aO) (by rw [List.length_take]; omega) Fi;refine ⟨.slice (some ⟨b,off*sz,none⟩) (l.length+c5.length) cap,b+1,ah,?_,.inr ⟨b,off,cap,X,Y.drop (c5.flatMap enc).length,rfl,by rw [List.length_append],?_,wm,by rw [List.length_append]; exact AM,?_,xj⟩,fb.weaken (fun i al _=>by unfold b5; omega),.inl rfl⟩
     · have bg:(X++l.flatMap enc).length=off*sz+l.length*i.size:=(by rw [List.length_append,wm,pk]);rw [bg] at ea;have a':∀ ah,(Builtin.lenOf (.slice (some ⟨aN,nj,none⟩) c5.length xg)).run P ah=.ok c5.length ah:=fun _=>rfl
       simp [Builtin.append_,run_underlying aQ,sizeOf,typeInfo,p5,Builtin.lenOf,AM,KT.cells,Addr.add_lit,ea]
     · rw [q2,List.flatMap_append,List.append_assoc X]
     · rw [List.length_drop,Dp,dG,i4,←Nat.sub_mul,List.length_append]; congr 1; omega
   · have holds:∀ j u,(l.flatMap enc)[j]?=some u→w.drew.cell? ((⟨b,off*sz,none⟩:Addr).add j)=some u:=fun j u hu=>by
      rw [add_lit,cell_of_row w.drew b _ _ e (0,0) aO,List.getElem?_toArray,List.append_assoc,List.getElem?_append_right (by omega),show off*sz+j-X.length=j from by omega,List.getElem?_append_left (List.getElem?_eq_some_iff.1 hu).1]
      exact hu
     have hold:=run_firstCells_some (P:=P) w.drew i.size l.length ⟨b,off*sz,none⟩ l.length cap (l.flatMap enc) pk holds;have aB:=run_append_grow_src (P:=P) w t t ty e i js aQ p5 i3 (some ⟨b,off*sz,none⟩) l.length cap (l.flatMap enc) hold _ _ _ KT (by omega) (by omega) (growslice_fits (by omega) (by rw [i5]; exact vY));have bd:=fresh cap (by omega) _ rfl;exact ⟨_,_,_,aB,bd.1,bd.2,.inr (Nat.lt_succ_self _)⟩
theorem gl.adm {P:Program} {E:Env} {d:Option Tmp} {ty:TypeId} {pos:String} {af:Array Edge} {gd:Option (Nat×Bool)} {K:Value→World→Prop} {t:TypeId} {x y:Operand} {fv:Bool} {by_:Nat} {z:List Value} {F:Nat→Prop} {v2:Value} {c5:List α}
 (h:kM enc e sz w g v l) (aQ:P.underlying t=some (.slice e)) (he:dX P e=some (fv,sz,by_,z)) (b':z.length=sz)
 (dr:∀ x,(enc x).length=sz) (h1:∀ x,(enc x).all (·.oneCell')=true) (ad:aC E x=some v) (av:aC E y=some v2) (aF:ak enc w F v2 c5) (cA:c5≠[]) (vY:(l.length+c5.length)*by_≤140737488355328) (su:l.length+c5.length≤maxLen)
 (eC:∀ g_ e' ah,kM enc e sz ah e' g_ (l++c5)→Mod (b5 g) w ah→(e'=g∨w.heap.size < e')→K g_ ah) :
 gl P ⟨d,.call { callee:=.builtin .append,args:=#[x,y],argTypes:=#[t,t] },ty,pos,af,gd⟩ E w K:=fun a ao=>by
 obtain ⟨g_,e',ah,aB,aa,aq,a6⟩:=h.append (ty:=ty) aQ he b' dr h1 aF cA vY su
 simp only [execOp,resolve,invoke,builtin,Sem.run_bind,Sem.run_pure,Result.andThen_ok,List.map_toArray,List.map_cons,List.map_nil,ao.aC ad,ao.aC av,aB,out]
 exact eC _ _ _ aa aq a6
end
end Go.aA
namespace Go.aA
open Go
section
variable {α:Type} {enc:α→List Value} {e:TypeId} {sz:Nat} {w:World} {g:Nat} {v:Value} {l:List α}
theorem S8 (l:List α) (i:Nat):l.flatMap enc=(l.take i).flatMap enc++(l.drop i).flatMap enc:=by rw [←List.flatMap_append,List.take_append_drop]
theorem adn (l:List α) (i:Nat) (al:i < l.length):l.flatMap enc=(l.take i).flatMap enc++(enc l[i]++(l.drop (i+1)).flatMap enc):=by rw [S8 l i,List.drop_eq_getElem_cons al,List.flatMap_cons]
theorem S9 {P:Program} {n cap:Nat} {cn al:Option Value} (i j:Nat) (AJ:(cn=none∧i=0)∨∃ k n,cn=some (.int k n)∧n=(i:Int)) (ot:(al=none∧j=n)∨∃ k m,al=some (.int k m)∧m=(j:Int)) (l5:i≤j) (aS:j≤n) (an:n≤cap) (w:World):(Instr.sliceBounds true n cap cn al none).run P w=.ok (i,j,cap) w:=by
 rcases AJ with ⟨rfl,rfl⟩|⟨k,q,rfl,aI⟩<;>rcases ot with ⟨rfl,rfl⟩|⟨iy,m,rfl,hm⟩
 · simp [Instr.sliceBounds]
 · simp [Instr.sliceBounds,sr _ hm (Nat.le_trans aS an)]
 · simp [Instr.sliceBounds,sr _ aI l5]
 · simp [Instr.sliceBounds,sr _ hm (Nat.le_trans aS an),sr _ aI l5]
theorem kM.from {P:Program} {t:TypeId} {by_:Nat} {fv:Bool} {z:List Value} (h:kM enc e sz w g v l) (aQ:P.underlying t=some (.slice e)) (he:dX P e=some (fv,sz,by_,z)) (dr:∀ x,(enc x).length=sz) {k:IntKind} {n:Int} (i:Nat) (aI:n=(i:Int)) (al:i≤l.length) :
 ∃ g_ e',(∀ w,(Instr.sliceAt t v (some (.int k n)) none none).run P w=.ok g_ w)∧kM enc e sz w e' g_ (l.drop i)∧(e'=g∨e'=0):=by
 rcases h with ⟨a,rfl,rfl,rfl⟩|⟨b,off,cap,X,Y,rfl,rfl,aO,wm,AL,Dp,xj⟩
 · have ado:i=0:=(by simpa using al);subst ado;refine ⟨.slice a 0 0,0,fun w=>?_,.inl ⟨a,rfl,by simp,rfl⟩,.inl rfl⟩;simp [Instr.sliceAt,Instr.slice,run_underlying aQ,S9 (n:=0) (cap:=0) 0 0 (.inr ⟨k,n,rfl,aI⟩) (.inl ⟨rfl,rfl⟩) (Nat.le_refl _) (Nat.le_refl _) (Nat.le_refl _) w,run_sizeOf he]
 · have S_:∀ w,(Instr.sliceAt t (.slice (some ⟨b,off*sz,none⟩) l.length cap) (some (.int k n)) none none).run P w=.ok (.slice (if cap=i then some ⟨b,off*sz,none⟩ else some ⟨b,off*sz+i*sz,none⟩) (l.length-i) (cap-i)) w:=fun w=>by
    have U:=S9 (P:=P) (n:=l.length) (cap:=cap) i l.length (.inr ⟨k,n,rfl,aI⟩) (.inl ⟨rfl,rfl⟩) al (Nat.le_refl _) AL w
    simp [Instr.sliceAt,Instr.slice,run_underlying aQ,U,run_sizeOf he,Addr.add_lit]
   by_cases an:cap=i
   · have adp:l.length=i:=(by omega);refine ⟨_,0,S_,.inl ⟨some ⟨b,off*sz,none⟩,?_,List.drop_of_length_le (by omega),rfl⟩,.inr rfl⟩;rw [if_pos an,adp,Nat.sub_self,an,Nat.sub_self]
   · have uR:=ts dr (l.take i);rw [List.length_take,Nat.min_eq_left al] at uR;refine ⟨_,b+1,S_,.inr ⟨b,off+i,cap-i,X++(l.take i).flatMap enc,Y,rfl,?_,?_,?_,?_,?_,by omega⟩,.inl rfl⟩
     · rw [if_neg an,List.length_drop,Nat.add_mul]
     · rw [aO,S8 (enc:=enc) l i]; simp only [List.append_assoc]
     · rw [List.length_append,wm,uR,Nat.add_mul]
     · rw [List.length_drop]; omega
     · rw [Dp,List.length_drop]; congr 1; omega
theorem kM.at {P:Program} {t:TypeId} {by_:Nat} {fv:Bool} {z:List Value} (h:kM enc e sz w g v l) (aQ:P.underlying t=some (.slice e)) (he:dX P e=some (fv,sz,by_,z)) (dr:∀ x,(enc x).length=sz) {k:IntKind} {n:Int} (i:Nat) (aI:n=(i:Int)) (al:i < l.length) :
 ∃ b off x,(∀ w,(Instr.indexAt t v (.int k n)).run P w=.ok (ptr b off) w)∧l[i]?=some x∧g=b+1∧Row w b off (enc x) ∧
  ∀ aZ,kM enc e sz aZ g v l→∃ A C,A.length=off∧aZ.heap[b]?=some (.cells (A++enc x++C).toArray e (0,0))∧∀ (zf:α) (ah:World),ah.heap[b]?=some (.cells (A++enc zf++C).toArray e (0,0))→kM enc e sz ah g v (l.set i zf):=by
 have hc:=h.bl;rcases h with ⟨a,rfl,rfl,rfl⟩|⟨b,off,cap,X,Y,rfl,rfl,aO,wm,AL,Dp,xj⟩
 · simp at al
 · obtain ⟨rL,OD,aB,U,va⟩:=hc.at aQ he dr (k:=k) i aI al;have a8:(0:Int)≤n∧n < (l.length:Int):=(by omega);have fw:n.toNat=i:=by omega
   have c_:(Instr.indexAt t (.slice (some ⟨b,off*sz,none⟩) l.length cap) (.int k n)).run P w=.ok (ptr b (off*sz+i*sz)) w:=by
    simp [Instr.indexAt,asIntOf,run_underlying aQ,a8,run_sizeOf he,add_lit,ptr,fw]
   have heq:=(aB w).symm.trans c_;simp only [ptr,Result.ok.injEq,Value.pointer.injEq,Option.some.injEq,Addr.mk.injEq,and_true] at heq;obtain ⟨rfl,rfl⟩:=heq;refine ⟨_,_,l[i],aB,by simp,rfl,va,fun aZ aa=>?_⟩;rcases aa with ⟨_,_,_,ad⟩|⟨aN,nj,xg,S',Ta,tG,bw,adq,Tb,FM,adr,ads⟩
   · omega
   · simp only [Value.slice.injEq,Option.some.injEq,Addr.mk.injEq,and_true,true_and] at bw;obtain ⟨⟨rfl,FL⟩,rfl⟩:=bw;have uR:=ts dr (l.take i);rw [List.length_take,Nat.min_eq_left (by omega)] at uR;refine ⟨S'++(l.take i).flatMap enc,(l.drop (i+1)).flatMap enc++Ta,by rw [List.length_append,Tb,uR,FL],?_,fun zf ah adt=>?_⟩
     · rw [adq];rw [adn (enc:=enc) l i al];simp only [List.append_assoc]
     · refine .inr ⟨rL,nj,cap,S',Ta,rfl,?_,?_,Tb,by rw [List.length_set]; exact FM,by rw [List.length_set]; exact adr,ads⟩
       · rw [List.length_set,FL]
       · rw [adt];congr 3
         rw [List.set_eq_take_append_cons_drop,if_pos al];simp [List.flatMap_append,List.flatMap_cons,List.append_assoc]
end
section
variable {R bB:Nat→Prop} {w0 w ah:World} {L:List (dc R)} {i:Nat} {α:Type} {enc:α→List Value} {e:TypeId} {sz:Nat} {v:Value} {l:List α}
def oF (enc:α→List Value) (e:TypeId) (sz:Nat) (v:Value) (l:List α):dc R:=
 ⟨fun F w=>∃ g,kM enc e sz w g v l∧∀ b,b+1=g→F b,fun ⟨g,h1,aa⟩ hm bO _=>⟨g,h1.keep hm fun b U=>bO b (aa b U.symm),aa⟩⟩
theorem ar.KU (h:ar R bB w0 w L) (al:L[i]?=some (oF enc e sz v l)):∃ g,kM enc e sz w g v l∧g≤w.heap.size∧∀ (ah:World) (e':Nat) (g_:Value) (kE:List α),Mod (b5 g) w ah→kM enc e sz ah e' g_ kE→(e'=g∨e'=0∨w.heap.size < e')→ar R bB w0 ah (L.set i (oF enc e sz g_ kE)):=by
 obtain ⟨F,⟨g,h1,aq⟩,aa,k⟩:=h.act al;refine ⟨g,h1,h1.lt,fun ah e' g_ kE hm ao aO=>k ah (fun b=>b+1=e') _ (hm.weaken fun b U _=>aq b U) ⟨e',ao,fun b U=>U⟩ fun b U=>⟨?_,?_⟩⟩
 · have:=ao.lt; omega
 · rcases aO with aO|aO|aO
   · exact .inl (aq b (by omega))
   · omega
   · exact .inr (by omega)
theorem ar.Dq (h:ar R bB w0 w L) (al:L[i]?=some (oF enc e sz v l)):ak enc w (aR 0 w.heap.size) v l:=by
 obtain ⟨g,h1,aa,_⟩:=h.KU al;exact h1.bl.b0 (Nat.zero_le _) aa
end
end Go.aA
namespace Go.ab
open Go.aA
structure bI where
 slot:Int
 query:Int
 shard:Int
 seq:Int
 hf:Int
 text:ag
 k:Int
 batch:Int
 first:Bool
 after:dk
 deriving DecidableEq
def sO (a b c d e:Int) (t:ag) (k n:Int) (f:Bool) (x:Int) (s:ag):bI:=⟨a,b,c,d,e,t,k,n,f,⟨x,s⟩⟩
def k5 (a:bI):List Value:=[.int .i64 a.slot,.int .i64 a.query,.int .i64 a.shard,.int .i64 a.seq,.int .i64 a.hf,aH a.text,.int .i64 a.k,.int .i64 a.batch,.bool a.first,.int .i64 a.after.cd,aH a.after.word]
def q3 (a:bI):Value:=.agg (k5 a).toArray
def KV:bI:=⟨0,0,0,0,0,[],0,0,false,⟨0,[]⟩⟩
def bI.pl (a:bI):Int×Int:=(a.slot,a.shard)
def n0 (p:Int×Int):List Value:=[.int .i64 p.1,.int .i64 p.2]
theorem KW (p:Int×Int):(n0 p).length=2:=rfl
theorem adu (p:Int×Int):(n0 p).all (·.oneCell')=true:=rfl
def tQ (p:Int×Int):Value:=.agg #[.int .i64 p.1,.int .i64 p.2]
structure bI.Ok (a:bI):Prop where
 slot:bp a.slot
 query:bp a.query
 shard:bp a.shard
 seq:bp a.seq
 hf:bp a.hf
 k:bp a.k
 batch:bp a.batch
 cd:bp a.after.cd
def GY (a:bI):Bool:=decide (0≤a.slot∧a.slot < 4∧0≤a.shard∧a.shard < 6)
def lr (q:List bI) (p:Int×Int):Option bI:=q.find? fun x=>decide (x.pl=p)
def Dr (x a:bI):Bool:=decide (x.query > a.query∨x.query=a.query∧x.seq > a.seq)
def q4 (q:List bI) (a:bI):Bool:=GY a && (match lr q a.pl with|some x=>!Dr x a|none=>true)
def iY (q:List bI) (a:bI):List bI:=
 if q4 q a=true then (match lr q a.pl with|some _=>q.map fun x=>if x.pl=a.pl then a else x|none=>q++[a]) else q
def adv (slot query:Int) (x:bI):Bool:=decide (x.slot=slot∧x.query≤query)
def KX (q:List bI) (slot query:Int):List bI:=q.filter fun x=>!adv slot query x
structure k6 (m:List ((Int×Int)×bI)) (q:List bI):Prop where
 keys:(m.map Prod.fst).Nodup
 at_:∀ p,fH m p=lr q p
 x4:(q.map bI.pl).Nodup
theorem k6.nil:k6 [] []:=⟨by simp,fun p=>rfl,by simp⟩
section
variable {α β:Type} [DecidableEq α]
theorem Tc (m:List (α×β)) (a b:α) (u:β):fH (kg m a u) b=if a=b then some u else fH m b:=by
 induction m with
 | nil =>
  unfold kg
  rw [oE]
 | cons p m bq =>
  unfold kg
  by_cases h:p.1=a
  · rw [if_pos h,oE,oE]
    by_cases U:a=b
    · rw [if_pos U,if_pos U]
    · rw [if_neg U,if_neg U,if_neg (fun e=>U (h.symm.trans e))]
  · rw [if_neg h,oE,oE,bq]
    by_cases U:a=b
    · rw [if_pos U,if_neg (fun e=>h (e.trans U.symm)),if_pos U]
    · rw [if_neg U,if_neg U]
theorem adw (m:List (α×β)) (a:α) (u:β):(kg m a u).map Prod.fst=if a∈m.map Prod.fst then m.map Prod.fst else m.map Prod.fst++[a]:=by
 induction m with
 | nil=>simp [kg]
 | cons p m bq =>
  unfold kg
  by_cases h:p.1=a
  · rw [if_pos h]; simp [h]
  · rw [if_neg h,List.map_cons,bq]
    by_cases hm:a∈m.map Prod.fst
    · rw [if_pos hm,if_pos (by simp only [List.map_cons,List.mem_cons]; exact .inr hm)]; rfl
    · rw [if_neg hm,if_neg (by simp only [List.map_cons,List.mem_cons,not_or]; exact ⟨fun e=>h e.symm,hm⟩)]; rfl
theorem Td {m:List (α×β)} {a:α} {u:β} (h:(m.map Prod.fst).Nodup):((kg m a u).map Prod.fst).Nodup:=by
 rw [adw];split
 · exact h
 · rename_i hm;rw [List.nodup_append];exact ⟨h,by simp,fun x ad y av=>by simp only [List.mem_singleton] at av; subst av; exact fun e=>hm (e▸ad)⟩
theorem adx (m:List (α×β)) (a:α):(lU m a).Sublist m:=by
 induction m with
 | nil=>exact List.Sublist.refl _
 | cons p m bq =>
  unfold lU
  split
  · exact List.sublist_cons_self _ _
  · exact bq.cons_cons _
theorem Kz {m:List (α×β)} {a:α} (h:a∉m.map Prod.fst):fH m a=none:=by
 induction m with
 | nil=>rfl
 | cons p m bq =>
  simp only [List.map_cons,List.mem_cons,not_or] at h
  rw [oE,if_neg (fun e=>h.1 e.symm),bq h.2]
theorem ady {m:List (α×β)} (h:(m.map Prod.fst).Nodup) (a b:α):fH (lU m a) b=if a=b then none else fH m b:=by
 induction m with
 | nil=>simp [lU,ac']
 | cons p m bq =>
  rw [List.map_cons,List.nodup_cons] at h
  unfold lU
  by_cases hp:p.1=a
  · rw [if_pos hp,oE]
    by_cases U:a=b
    · rw [if_pos U,←U,←hp]; exact Kz h.1
    · rw [if_neg U,if_neg (fun e=>U (hp.symm.trans e))]
  · rw [if_neg hp,oE,oE,bq h.2]
    by_cases U:a=b
    · rw [if_pos U,if_neg (fun e=>hp (e.trans U.symm)),if_pos U]
    · rw [if_neg U,if_neg U]
theorem adz {m:List (α×β)} {a:α} (h:(m.map Prod.fst).Nodup):((lU m a).map Prod.fst).Nodup:=h.sublist ((adx m a).map _)
end
theorem Te {q:List bI} (h:(q.map bI.pl).Nodup) {x:bI} (ad:x∈q):lr q x.pl=some x:=by
 induction q with
 | nil=>simp at ad
 | cons y q bq =>
  rw [List.map_cons,List.nodup_cons] at h
  unfold lr
  rw [List.find?_cons]
  by_cases e:y.pl=x.pl
  · rcases List.mem_cons.1 ad with rfl|ad
    · simp
    · exact absurd (List.mem_map.2 ⟨x,ad,e.symm⟩) h.1
  · rcases List.mem_cons.1 ad with rfl|ad
    · exact absurd rfl e
    · rw [decide_eq_false e]; exact bq h.2 ad
theorem adA (q:List bI) (a:bI) (p:Int×Int):lr (q++[a]) p=match lr q p with|some x=>some x|none=>if a.pl=p then some a else none:=by
 unfold lr;rw [List.find?_append]
 cases q.find? (fun x=>decide (x.pl=p)) with
 | some x=>rfl
 | none =>
  by_cases h:a.pl=p
  · simp [h]
  · simp [h]
theorem adB {q:List bI} {p:Int×Int} (h:lr q p=none):p∉q.map bI.pl:=fun hm=>by
 obtain ⟨x,ad,rfl⟩:=List.mem_map.1 hm
 have:=List.find?_eq_none.1 h x ad
 simp at this
theorem KY (q:List bI) (a:bI):(q.map fun x=>if x.pl=a.pl then a else x).map bI.pl=q.map bI.pl:=by
 rw [List.map_map];refine List.map_congr_left fun x _=>?_
 simp only [Function.comp_apply];split
 · rename_i h; exact h.symm
 · rfl
theorem adC {q:List bI} {a:bI} (p:Int×Int):lr (q.map fun x=>if x.pl=a.pl then a else x) p=if a.pl=p then (match lr q p with|some _=>some a|none=>none) else lr q p:=by
 induction q with
 | nil=>unfold lr; simp
 | cons y q bq =>
  unfold lr at bq ⊢
  rw [List.map_cons,List.find?_cons,List.find?_cons]
  by_cases av:y.pl=a.pl
  · rw [if_pos av]
    by_cases hp:a.pl=p
    · simp [hp,av.trans hp]
    · rw [if_neg hp] at bq
      simp only [decide_eq_false hp,decide_eq_false (show ¬ y.pl=p from fun e=>hp (av.symm.trans e)),if_neg hp]
      exact bq
  · rw [if_neg av]
    by_cases hp:y.pl=p
    · simp only [decide_eq_true hp]
      rw [if_neg (fun e=>av (hp.trans e.symm))]
    · simp only [decide_eq_false hp]
      exact bq
theorem k6.put {m:List ((Int×Int)×bI)} {q:List bI} {a x:bI} (h:k6 m q) (ad:lr q a.pl=some x):k6 (kg m a.pl a) (q.map fun x=>if x.pl=a.pl then a else x):=by
 refine ⟨Td h.keys,fun p=>?_,by rw [KY]; exact h.x4⟩;rw [Tc,adC,h.at_];by_cases hp:a.pl=p
 · rw [if_pos hp,if_pos hp,←hp,ad]
 · rw [if_neg hp,if_neg hp]
theorem k6.add {m:List ((Int×Int)×bI)} {q:List bI} {a:bI} (h:k6 m q) (ad:lr q a.pl=none):k6 (kg m a.pl a) (q++[a]):=by
 refine ⟨Td h.keys,fun p=>?_,?_⟩
 · rw [Tc,adA,h.at_];by_cases hp:a.pl=p
   · rw [if_pos hp,←hp,ad]; simp
   · rw [if_neg hp]
     cases lr q p with
     | some _=>rfl
     | none=>simp [hp]
 · rw [List.map_append,List.nodup_append];exact ⟨h.x4,by simp,fun x rV y av=>by simp only [List.map_cons,List.map_nil,List.mem_singleton] at av; subst av; exact fun e=>adB ad (e▸rV)⟩
theorem adD {q:List bI} (h:(q.map bI.pl).Nodup) {a:bI} (p:Int×Int):lr (q.filter fun x=>decide (x.pl≠a.pl)) p=if a.pl=p then none else lr q p:=by
 induction q with
 | nil=>unfold lr; simp
 | cons y q bq =>
  rw [List.map_cons,List.nodup_cons] at h
  have bq:=bq h.2
  unfold lr at bq ⊢
  rw [List.filter_cons,List.find?_cons]
  by_cases av:y.pl=a.pl
  · rw [if_neg (by simp [av]),bq]
    by_cases hp:a.pl=p
    · rw [if_pos hp,if_pos hp]
    · rw [if_neg hp,if_neg hp,decide_eq_false (fun e=>hp (av.symm.trans e))]
  · rw [if_pos (by simp [av]),List.find?_cons]
    by_cases hp:y.pl=p
    · rw [decide_eq_true hp]; simp only
      rw [if_neg (fun e=>av (hp.trans e.symm))]
    · rw [decide_eq_false hp]; simp only; exact bq
theorem k6.del {m:List ((Int×Int)×bI)} {q:List bI} {a:bI} (h:k6 m q):k6 (lU m a.pl) (q.filter fun x=>decide (x.pl≠a.pl)):=by
 refine ⟨adz h.keys,fun p=>?_,h.x4.sublist ((List.filter_sublist).map _)⟩;rw [ady h.keys,adD h.x4,h.at_]
theorem adE {q:List bI} {a:bI} (h:((a::q).map bI.pl).Nodup):(a::q).filter (fun x=>decide (x.pl≠a.pl))=q:=by
 rw [List.map_cons,List.nodup_cons] at h;rw [List.filter_cons_of_neg (by simp),List.filter_eq_self.2];intro x ad;simp only [ne_eq,decide_eq_true_eq];exact fun e=>h.1 (List.mem_map.2 ⟨x,ad,e⟩)
theorem k6.pop {m:List ((Int×Int)×bI)} {q:List bI} {a:bI} (h:k6 m (a::q)):k6 (lU m a.pl) q:=by
 have:=h.del (a:=a);rwa [adE h.x4] at this
theorem k6.head {m:List ((Int×Int)×bI)} {q:List bI} {a:bI} (h:k6 m (a::q)):fH m a.pl=some a:=by
 rw [h.at_]; exact Te h.x4 (by simp)
theorem k6.mem {m:List ((Int×Int)×bI)} {q:List bI} {a:bI} (h:k6 m q) (ao:a∈q):fH m a.pl=some a:=by
 rw [h.at_]; exact Te h.x4 ao
theorem k6.y6 {m:List ((Int×Int)×bI)} {q:List bI} {k:Nat} {p:Int×Int} (h:k6 m q) (hp:(q.map bI.pl)[k]?=some p):∃ a,q[k]?=some a∧a.pl=p∧fH m p=some a:=by
 rw [List.getElem?_map] at hp
 cases ao:q[k]? with
 | none=>rw [ao] at hp; cases hp
 | some a =>
  rw [ao] at hp
  simp only [Option.map_some,Option.some.injEq] at hp
  subst hp
  exact ⟨a,rfl,rfl,h.mem (List.mem_of_getElem? ao)⟩
section
variable {cr α:Type}
def KZ (f:cr→α→cr×Bool) (s:cr) (l:List α):cr:=l.foldl (fun s x=>(f s x).1) s
def v_ (f:cr→α→cr×Bool):cr→List α→List α
 | _,[]=>[]
 | s,x::r=>(if (f s x).2=true then [] else [x])++v_ f (f s x).1 r
theorem Tf (f:cr→α→cr×Bool):∀ (l:List α) (s:cr) (x:α),v_ f s (l++[x])=v_ f s l++(if (f (KZ f s l) x).2=true then [] else [x])
 | [],s,x=>by show (if (f s x).2=true then [] else [x])++[]=[]++(if (f s x).2=true then [] else [x]); simp
 | y::l,s,x=>by
  simp only [List.cons_append,v_]
  rw [Tf f l]
  simp only [List.append_assoc]; rfl
theorem adF {f:cr→α→cr×Bool} {s:cr} {l:List α} {k:Nat} {x:α} (ad:l[k]?=some x):v_ f s (l.take (k+1))=v_ f s (l.take k)++(if (f (KZ f s (l.take k)) x).2=true then [] else [x]):=by
 rw [List.take_add_one,ad]; exact Tf f _ s x
end
end Go.ab
namespace Go.wC
open Go Go.aA
def sP (N:Nat→Bool) (ef:World) (C:World→Prop) (i:Nat) (w:World):Prop:=if N i=true then w=ef else C w
def J (ops:Array Oper) (N:Nat→Bool) (ef:World) (C:World→Prop) (bL:Array Bool) (w:World):Prop:=C w∧(w=ef∨∀ i,N i=true→i < ops.size→bL.getD i true=true)
def x5 (ops:Array Oper) (m:Array Nat) (A N:Nat→Bool):Bool:=(List.range ops.size).all fun j=>!A j || (List.range ops.size).all fun i=>!N i || (!A i && (m.getD j 0).testBit i)
theorem Tg {ops:Array Oper} {m:Array Nat} {A N:Nat→Bool} (h:x5 ops m A N=true) {i j:Nat} (al:i < ops.size) (aS:j < ops.size) (bg:A j=true) (gw:N i=true):A i=false∧(m.getD j 0).testBit i=true:=by
 have h1:=List.all_eq_true.1 h j (List.mem_range.2 aS);simp only [bg,Bool.not_true,Bool.false_or] at h1;have aa:=List.all_eq_true.1 h1 i (List.mem_range.2 al);simp only [gw,Bool.not_true,Bool.false_or,Bool.and_eq_true,Bool.not_eq_true'] at aa;exact aa
theorem J.set {ops:Array Oper} {N:Nat→Bool} {ef w:World} {C:World→Prop} {bL:Array Bool} {k:Nat} (h:J ops N ef C bL w):J ops N ef C (bL.setIfInBounds k true) w:=by
 refine ⟨h.1,h.2.imp id fun ao i gw al=>?_⟩;have:=ao i gw al;by_cases hk:k=i
 · subst hk;simp only [Array.getD_eq_getD_getElem?,Array.getElem?_setIfInBounds];split<;>rename_i a8<;>simp_all
   split<;>simp_all
 · rw [getD_set_ne true hk]; exact this
section
variable {P:Program} {ops:Array Oper} {C:World→Prop} {A N:Nat→Bool} {Z:Nat} {ef:World}
def gF (P:Program) (ops:Array Oper) (C:World→Prop) (A N:Nat→Bool) (ef:World) (Z:Nat) (i:Nat) (K:Act→World→Prop) (a:Act) (w:World):Prop:=
 match ops[i]? with
 | none=>K a w
 | some o =>
  if Region.wanted o (yielded ops a.tmps)=true then
   if A i=true then out P (fun v ah=>(i=Z∨C ah)∧K (a.put o.dst v) ah) ((execOp a.eval o).run P w)
   else ∃ v,(∀ ah,sP N ef C i ah→(execOp a.eval o).run P ah=.ok (.value v) ah)∧K (a.put o.dst v) w
  else K (a.put o.dst undef) w
def wd (P:Program) (ops:Array Oper) (C:World→Prop) (A N:Nat→Bool) (ef:World) (Z:Nat) (Q:Act→World→Prop):List Nat→Act→World→Prop
 | [],a,w=>Q a w
 | i::r,a,w=>gF P ops C A N ef Z i (wd P ops C A N ef Z Q r) a w
def lj (P:Program) (ops:Array Oper) (C:World→Prop) (A N:Nat→Bool) (ef:World) (Z:Nat) (Q:Act→World→Prop):Nat→Array Bool→Act→World→Prop
 | 0,bL,a,w=>Region.ready .any ops bL=[]∧Q a w
 | fuel+1,bL,a,w =>
  (Region.ready .any ops bL=[]→Q a w) ∧
  ∀ i∈Region.ready .any ops bL,gF P ops C A N ef Z i (lj P ops C A N ef Z Q fuel (bL.setIfInBounds i true)) a w
def mJ (P:Program) (ops:Array Oper) (C:World→Prop) (A N:Nat→Bool) (ef:World) (i:Nat) (o:Oper) (v:Value) (a:Act):Prop:=
 (Region.wanted o (yielded ops a.tmps)=true∧A i=false∧∀ ah,sP N ef C i ah→(execOp a.eval o).run P ah=.ok (.value v) ah) ∨
 (Region.wanted o (yielded ops a.tmps)=false∧v=undef)
theorem mJ.gF {i:Nat} {o:Oper} {v:Value} {a:Act} {w:World} {K:Act→World→Prop} (al:ops[i]?=some o) (av:mJ P ops C A N ef i o v a) (h:K (a.put o.dst v) w):gF P ops C A N ef Z i K a w:=by
 unfold wC.gF;simp only [al];rcases av with ⟨hw,bg,bG⟩|⟨hw,rfl⟩
 · simp only [hw,bg,if_true,Bool.false_eq_true,if_false]; exact ⟨v,bG,h⟩
 · simp only [hw,Bool.false_eq_true,if_false]; exact h
theorem mJ.of_same {i:Nat} {o:Oper} {v:Value} {a jQ:Act} (av:mJ P ops C A N ef i o v a) (he:execOp jQ.eval o=execOp a.eval o)
 (hw:Region.wanted o (yielded ops jQ.tmps)=Region.wanted o (yielded ops a.tmps)):mJ P ops C A N ef i o v jQ:=by
 unfold mJ at *;rw [he,hw];exact av
theorem IN {i j:Nat} {ey eb:Oper} {v:Value} (aS:ops[j]?=some eb) (yP:ey.apart ops eb=true)
 (vR:∀ cs b,ey.op≠.select cs b) (yQ:∀ cs b,eb.op≠.select cs b) {K:Act→World→Prop} {a:Act} {w:World}
 (av:mJ P ops C A N ef i ey v a) (h:gF P ops C A N ef Z j K (a.put ey.dst v) w) :
 gF P ops C A N ef Z j (fun jQ ah=>mJ P ops C A N ef i ey v jQ∧K (jQ.put ey.dst v) ah) a w:=by
 obtain ⟨h1,aa,aq⟩:=Oper.apart_spec yP
 have keep:∀ u,mJ P ops C A N ef i ey v (a.put eb.dst u):=fun u =>
  av.of_same (execOp_put ey vR a eb.dst u aq) (wanted_put ey a eb.dst u aq)
 unfold gF at *;simp only [aS] at *;rw [wanted_put eb a ey.dst v h1,execOp_put eb yQ a ey.dst v h1] at h;split
 · rename_i hw;simp only [hw,if_true] at h;split
   · rename_i bg;simp only [bg,if_true] at h;exact sq (fun u ah hu=>⟨hu.1,keep u,by rw [←Act.put_comm a v u aa]; exact hu.2⟩) h
   · rename_i bg;simp only [bg] at h;obtain ⟨u,hu,hk⟩:=h;exact ⟨u,hu,keep u,by rw [←Act.put_comm a v u aa]; exact hk⟩
 · rename_i hw;simp only [hw] at h;exact ⟨keep _,by rw [←Act.put_comm a v undef aa]; exact h⟩
theorem IP {i:Nat} {K qL:Act→World→Prop} {J':World→Prop} {a:Act} {w:World} (cA:i≠Z) (h:∀ a w,J' w→K a w→qL a w) (hC:J' w) (adG:A i=true→∀ ah,C ah→J' ah) (fC:gF P ops C A N ef Z i K a w):gF P ops C A N ef Z i qL a w:=by
 unfold gF at *;split
 · exact h _ _ hC (by simpa [*] using fC)
 · rename_i o dJ;simp only [dJ] at fC;split
   · rename_i hw;simp only [hw,if_true] at fC;split
     · rename_i bg;simp only [bg,if_true] at fC;exact sq (fun v ah bG=>⟨bG.1,h _ _ (adG bg _ (bG.1.resolve_left cA)) bG.2⟩) fC
     · rename_i bg;simp only [bg] at fC;obtain ⟨v,h1,aa⟩:=fC;exact ⟨v,h1,h _ _ hC aa⟩
   · rename_i hw;simp only [hw] at fC;exact h _ _ hC fC
theorem J.act {m:Array Nat} (eG:qM ops m=true) (l6:x5 ops m A N=true) {bL:Array Bool} (hd:oU m bL) {j:Nat} (aS:j∈Region.ready .any ops bL) (bg:A j=true) {ah:World} (hC:C ah):J ops N ef C (bL.setIfInBounds j true) ah:=by
 refine ⟨hC,.inr fun i gw al=>?_⟩;obtain ⟨GZ,U⟩:=Tg l6 al (uN aS) bg gw;have:=IS (xc eG hd aS U);by_cases fl:j=i
 · subst fl; rw [bg] at GZ; cases GZ
 · rw [getD_set_ne true fl]; exact this
theorem J.adH {bL:Array Bool} {w:World} (h:J ops N ef C bL w) {i:Nat} (al:i∈Region.ready .any ops bL):sP N ef C i w:=by
 unfold sP;split
 · rename_i gw;rcases h.2 with e|ao
   · exact e
   · have h1:=ao i gw (uN al);rw [(mem_ready.1 al).1] at h1;cases h1
 · exact h.1
theorem tl {m:Array Nat} (eG:qM ops m=true) (l6:x5 ops m A N=true) (b':tk ops m Z) {Q:Act→World→Prop} {Co:Exit→Act→World→Prop} (rG:∀ a w,Q a w→Co .normal a w):∀ (fuel:Nat) (bL:Array Bool) (a:Act) (w:World),(J ops N ef C bL w∨Region.ready .any ops bL=[])→oU m bL →
 lj P ops C A N ef Z Q fuel bL a w→wpAny P .any ops Co fuel bL a w
 | 0,_,_,_,_,_,h=>⟨h.1,rG _ _ h.2⟩
 | fuel+1,bL,a,w,hC,hg,h=>⟨fun a8=>rG _ _ (h.1 a8),fun i al=>by
  have rH:J ops N ef C bL w:=by
   rcases hC with h|h
   · exact h
   · rw [h] at al; cases al
  have rI:=hg.set eG al
  have aa:=h.2 i al
  unfold gF at aa
  unfold wpOp
  split
  · rename_i dJ
    simp only [dJ] at aa
    exact tl eG l6 b' rG fuel _ _ _ (.inl rH.set) rI aa
  · rename_i o dJ
    simp only [dJ] at aa
    split
    · rename_i hw
      simp only [hw,if_true] at aa
      refine .inl ?_
      split at aa
      · rename_i GZ
        refine IL (fun v ah bG=>tl eG l6 b' rG fuel _ _ _ ?_ rI bG.2) aa
        rcases bG.1 with e|e
        · subst e; exact .inr (Fe eG b' hg al)
        · exact .inl (J.act eG l6 hg al GZ e)
      · obtain ⟨v,aq,a6⟩:=aa
        unfold Oper.wp
        rw [aq w (rH.adH al)]
        exact tl eG l6 b' rG fuel _ _ _ (.inl rH.set) rI a6
    · rename_i hw
      simp only [hw] at aa
      exact tl eG l6 b' rG fuel _ _ _ (.inl rH.set) rI aa⟩
theorem Cp {m:Array Nat} (eG:qM ops m=true) (l6:x5 ops m A N=true) (b':tk ops m Z) {Q:Act→World→Prop} {i:Nat} {ey:Oper} {v:Value} (al:ops[i]?=some ey) (tm:∀ (j:Nat) (o:Oper) cs b,ops[j]?=some o→o.op≠.select cs b) :
 ∀ (fuel:Nat) (bL:Array Bool) (a:Act) (w:World),J ops N ef C bL w→oU m bL →
  (∀ j eb,ops[j]?=some eb→j≠i→bL.getD j true=false→(m.getD j 0).testBit i=false→ey.apart ops eb=true) →
  i∈Region.ready .any ops bL→mJ P ops C A N ef i ey v a →
  lj P ops C A N ef Z Q fuel (bL.setIfInBounds i true) (a.put ey.dst v) w→lj P ops C A N ef Z Q (fuel+1) bL a w:=by
 intro fuel
 induction fuel with
 | zero =>
  intro bL a w hC _ _ aB av H
  refine ⟨fun h=>(by rw [h] at aB; cases aB),fun j aS=>?_⟩
  by_cases fl:j=i
  · subst fl; exact av.gF al H
  · have:=ready_mono aS fl
    rw [H.1] at this
    cases this
 | succ fuel bq =>
  intro bL a w hC hg tn aB av H
  refine ⟨fun h=>(by rw [h] at aB; cases aB),fun j aS=>?_⟩
  by_cases fl:j=i
  · subst fl; exact av.gF al H
  · have h1:=H.2 j (ready_mono aS fl)
    obtain ⟨qN,eb,nO,fr⟩:=mem_ready.1 aS
    have yR:(m.getD j 0).testBit i=false:=by
     cases U:(m.getD j 0).testBit i with
     | false=>rfl
     | true =>
      have aa:=xc eG hg aS U
      rw [Fc (mem_ready.1 aB).1] at aa
      cases aa
    have aa:=IN nO (tn j eb nO fl qN yR) (fun cs b=>tm i ey cs b al) (fun cs b=>tm j eb cs b nO) av h1
    have vS:∀ k ok,ops[k]?=some ok→k≠i→(bL.setIfInBounds j true).getD k true=false →
     (m.getD k 0).testBit i=false→ey.apart ops ok=true:=fun k ok hk kX tp ho=>by
     refine tn k ok hk kX ?_ ho
     by_cases kq:j=k
     · subst kq; exact qN
     · rw [getD_set_ne true kq] at tp; exact tp
    have IU:j≠Z:=fun e=>by
     subst e
     have bT:=Cn eG b' hg aS (uN aB) (Ne.symm fl)
     rw [(mem_ready.1 aB).1] at bT; cases bT
    refine IP (J':=J ops N ef C (bL.setIfInBounds j true)) IU (fun jQ ah rH aq=>bq (bL.setIfInBounds j true) jQ ah rH (hg.set eG aS) vS (ready_mono aB (Ne.symm fl)) aq.1 ?_) hC.set (fun yS ah an=>J.act eG l6 hg aS yS an) aa
    rw [Array.setIfInBounds_comm _ _ fl]
    exact aq.2
theorem IV {m:Array Nat} (eG:qM ops m=true) (l6:x5 ops m A N=true) (b':tk ops m Z) {Q:Act→World→Prop} {i:Nat} {ey:Oper} (al:ops[i]?=some ey) (bg:A i=true) (tm:∀ (j:Nat) (o:Oper) cs b,ops[j]?=some o→o.op≠.select cs b) :
 ∀ (fuel:Nat) (bL:Array Bool) (a:Act) (w:World),J ops N ef C bL w→oU m bL →
  (∀ j eb,ops[j]?=some eb→j≠i→bL.getD j true=false→(m.getD j 0).testBit i=false→ey.apart ops eb=true∧A j=false) →
  i∈Region.ready .any ops bL→Region.wanted ey (yielded ops a.tmps)=true →
  out P (fun v ah=>(i=Z∨C ah)∧lj P ops C A N ef Z Q fuel (bL.setIfInBounds i true) (a.put ey.dst v) ah) ((execOp a.eval ey).run P w)→lj P ops C A N ef Z Q (fuel+1) bL a w:=by
 intro fuel
 induction fuel with
 | zero =>
  intro bL a w hC _ _ aB hw H
  refine ⟨fun h=>(by rw [h] at aB; cases aB),fun j aS=>?_⟩
  by_cases fl:j=i
  · subst fl; unfold gF; simp only [al,hw,bg,if_true]; exact H
  · obtain ⟨v,ah,_,hk⟩:=Fb H
    have:=ready_mono aS fl
    rw [hk.1] at this
    cases this
 | succ fuel bq =>
  intro bL a w hC hg tn aB hw H
  refine ⟨fun h=>(by rw [h] at aB; cases aB),fun j aS=>?_⟩
  by_cases fl:j=i
  · subst fl; unfold gF; simp only [al,hw,bg,if_true]; exact H
  · obtain ⟨qN,eb,nO,fr⟩:=mem_ready.1 aS
    have yR:(m.getD j 0).testBit i=false:=by
     cases U:(m.getD j 0).testBit i with
     | false=>rfl
     | true =>
      have aa:=xc eG hg aS U
      rw [Fc (mem_ready.1 aB).1] at aa
      cases aa
    obtain ⟨yP,yS⟩:=tn j eb nO fl qN yR
    obtain ⟨xe,AG,uO⟩:=Oper.apart_spec yP
    have vS:∀ k ok,ops[k]?=some ok→k≠i→(bL.setIfInBounds j true).getD k true=false →
     (m.getD k 0).testBit i=false→ey.apart ops ok=true∧A k=false:=fun k ok hk kX tp ho=>by
     refine tn k ok hk kX ?_ ho
     by_cases kq:j=k
     · subst kq; exact qN
     · rw [getD_set_ne true kq] at tp; exact tp
    have vR:=fun cs b=>tm i ey cs b al
    have yQ:=fun cs b=>tm j eb cs b nO
    have adI:N j=false:=by
     cases gw:N j with
     | false=>rfl
     | true =>
      have ed:=IS (xc eG hg aB (Tg l6 (uN aS) (uN aB) bg gw).2)
      rw [qN] at ed; cases ed
    have Ds:∀ ah,sP N ef C j ah↔C ah:=fun ah=>by unfold sP; rw [adI]; simp
    -- Xi 'IW Xj,Xk 'IX left
    have after:∀ v ah,lj P ops C A N ef Z Q (fuel+1) (bL.setIfInBounds i true) (a.put ey.dst v) ah →
     gF P ops C A N ef Z j (lj P ops C A N ef Z Q fuel ((bL.setIfInBounds i true).setIfInBounds j true)) (a.put ey.dst v) ah:=fun v ah hk=>hk.2 j (ready_mono aS fl)
    unfold gF
    simp only [nO,yS,Bool.false_eq_true,if_false]
    by_cases vT:Region.wanted eb (yielded ops a.tmps)=true
    · simp only [vT,if_true]
      have get:∀ v ah,lj P ops C A N ef Z Q (fuel+1) (bL.setIfInBounds i true) (a.put ey.dst v) ah →
       ∃ u,(∀ ah,sP N ef C j ah→(execOp a.eval eb).run P ah=.ok (.value u) ah)∧lj P ops C A N ef Z Q fuel ((bL.setIfInBounds i true).setIfInBounds j true) ((a.put ey.dst v).put eb.dst u) ah:=fun v ah hk=>by
       have h1:=after v ah hk
       unfold gF at h1
       simp only [nO,yS,Bool.false_eq_true,if_false] at h1
       rw [wanted_put eb a ey.dst v xe,vT,if_pos rfl,execOp_put eb yQ a ey.dst v xe] at h1
       exact h1
      have Of:i≠Z:=fun e=>by
       subst e
       have bT:=Cn eG b' hg aB (uN aS) fl
       rw [qN] at bT; cases bT
      obtain ⟨v0,w0,Cq,IY⟩:=Fb H
      obtain ⟨u,hu,_⟩:=get v0 w0 IY
      refine ⟨u,hu,bq (bL.setIfInBounds j true) (a.put eb.dst u) w hC.set (hg.set eG aS) vS (ready_mono aB (Ne.symm fl)) ?_ ?_⟩
      · rw [wanted_put ey a eb.dst u uO]; exact hw
      · rw [execOp_put ey vR a eb.dst u uO]
        refine sq (fun v ah ⟨an,hk⟩=>⟨an,?_⟩) H
        obtain ⟨xf,AH,oV⟩:=get v ah hk
        have e:xf=u:=by
         have h1:=hu w ((Ds w).2 hC.1)
         rw [AH w ((Ds w).2 hC.1)] at h1
         simpa using h1
        subst e
        rw [Array.setIfInBounds_comm _ _ fl,←Act.put_comm a v xf AG]
        exact oV
    · simp only [vT,Bool.false_eq_true,if_false]
      refine bq (bL.setIfInBounds j true) (a.put eb.dst undef) w hC.set (hg.set eG aS) vS (ready_mono aB (Ne.symm fl)) ?_ ?_
      · rw [wanted_put ey a eb.dst undef uO]; exact hw
      · rw [execOp_put ey vR a eb.dst undef uO]
        refine sq (fun v ah ⟨an,hk⟩=>⟨an,?_⟩) H
        have h1:=after v ah hk
        unfold gF at h1
        simp only [nO] at h1
        rw [wanted_put eb a ey.dst v xe,if_neg (by simpa using vT)] at h1
        rw [Array.setIfInBounds_comm _ _ fl,←Act.put_comm a v undef AG]
        exact h1
theorem Cr {m:Array Nat} (eG:qM ops m=true) (l6:x5 ops m A N=true) (b':tk ops m Z) {Q:Act→World→Prop} (aF:Region.noSelect ops=true):∀ (fuel k:Nat) (bL:Array Bool) (a:Act) (w:World),(J ops N ef C bL w∨fuel=0)→oU m bL →
 k+fuel=ops.size→uP ops m A fuel k bL=true→wd P ops C A N ef Z Q (List.range' k fuel) a w→lj P ops C A N ef Z Q fuel bL a w
 | 0,_,_,_,_,_,_,_,eK,h=>⟨by simpa [uP] using eK,h⟩
 | fuel+1,k,bL,a,w,Cq,hg,dr,eK,h=>by
  have hC:J ops N ef C bL w:=Cq.resolve_right (by omega)
  have gE:k < ops.size:=by omega
  have a8:ops[k]?=some ops[k]:=by simp [gE]
  simp only [uP,Bool.and_eq_true,List.contains_iff_mem] at eK
  obtain ⟨⟨aB,bd⟩,vU⟩:=eK
  have vV:=Oi a8 bd
  rw [List.range'_succ] at h
  simp only [wd] at h
  have rI:=hg.set eG aB
  have vW:k=Z→fuel=0:=fun e=>by
   subst e
   have hd:=Fe eG b' hg aB
   cases fuel with
   | zero=>rfl
   | succ f =>
    simp only [uP,Bool.and_eq_true,List.contains_iff_mem] at vU
    rw [hd] at vU
    exact absurd vU.1.1 (by simp)
  have yU:∀ a w,(J ops N ef C (bL.setIfInBounds k true) w∨fuel=0)→wd P ops C A N ef Z Q (List.range' (k+1) fuel) a w→lj P ops C A N ef Z Q fuel (bL.setIfInBounds k true) a w:=fun a w an hk =>
   Cr eG l6 b' aF fuel (k+1) _ a w an rI (by omega) vU hk
  unfold gF at h
  simp only [a8] at h
  by_cases hw:Region.wanted ops[k] (yielded ops a.tmps)=true
  · simp only [hw,if_true] at h
    by_cases bg:A k=true
    · simp only [bg,if_true] at h
      exact IV eG l6 b' a8 bg (Region.noSelect_spec aF) fuel bL a w hC hg (fun j eb aS cA a' hm=>⟨(vV j eb aS cA a' hm).1,by have:=(vV j eb aS cA a' hm).2; simpa [bg] using this⟩) aB hw
       (sq (fun v ah bG=>⟨bG.1,yU _ _ (bG.1.elim (fun e=>.inr (vW e)) (fun e=>.inl (J.act eG l6 hg aB bg e))) bG.2⟩) h)
    · simp only [bg] at h
      obtain ⟨v,bG,hk⟩:=h
      exact Cp eG l6 b' a8 (Region.noSelect_spec aF) fuel bL a w hC hg (fun j eb aS cA a' hm=>(vV j eb aS cA a' hm).1) aB (.inl ⟨hw,by simpa using bg,bG⟩) (yU _ _ (.inl hC.set) hk)
  · simp only [hw] at h
    exact Cp (A:=A) (v:=undef) eG l6 b' a8 (Region.noSelect_spec aF) fuel bL a w hC hg (fun j eb aS cA a' hm=>(vV j eb aS cA a' hm).1) aB (.inr ⟨by simpa using hw,rfl⟩) (yU _ _ (.inl hC.set) h)
theorem I0 {id:Nat} {Q:Exit→Act→World→Prop} {a:Act} {w:World} (hm:P.follows .mixedOrders=true) (eK:yT ops A Z=true) (gw:x5 ops (Region.before ops) A N=true) (hC:C w.drew)
 (h:wd P ops C A N w.drew Z (fun jQ ah=>Q .normal jQ ah) (List.range' 0 ops.size) a w.drew):(Code.region id ops true).wp P Q a w:=by
 simp only [yT,Bool.and_eq_true] at eK;have b':=Oh eK.1.1.1
 have hg:oU (Region.before ops) (Array.replicate ops.size false):=fun j k aS=>by
  simp only [Array.getD_eq_getD_getElem?,Array.getElem?_replicate] at aS
  split at aS<;>simp at aS
 have Th:J ops N w.drew C (Array.replicate ops.size false) w.drew:=⟨hC,.inl rfl⟩;exact wp_region_any hm (tl (C:=C) (A:=A) (Z:=Z) eK.1.2 gw b' (Q:=fun jQ ah=>Q .normal jQ ah) (fun _ _ h=>h) _ _ _ _ (.inl Th) hg (Cr eK.1.2 gw b' eK.1.1.2 ops.size 0 _ a _ (.inl Th) hg (by omega) eK.2 h))
variable {f:FuncId} {R:Ending→World→Prop} {n:Nat}
def iF (P:Program) (f:FuncId) (R:Ending→World→Prop) (n:Nat) (C:World→Prop) (A N:Nat→Bool) (ef:World) (Z:Nat) (ops:Array Oper) (l:List Nat) (E:Env) (k:List Item) (w:World):Prop:=
 ∀ a,Sat n E a→wd P ops C A N ef Z (fun a w=>nM P f R k a w) l a w
theorem Dt (A N:Nat→Bool) (Z:Nat) (C:World→Prop) {id:Nat} {ops:Array Oper} {E:Env} {k:List Item} {w:World} (hm:P.follows .mixedOrders=true) (eK:yT ops A Z=true) (gw:x5 ops (Region.before ops) A N=true)
 (h:∀ ai,Ext w ai→C ai∧iF P f R n C A N ai Z ops (List.range' 0 ops.size) E k ai):gQ P f R n E (.code (.region id ops true)::k) w:=
 fun a ao=>IJ (I0 (A:=A) (N:=N) (C:=C) (Z:=Z) hm eK gw (h w.drew (Mod.drew _ _)).1 (by
  have:=(h w.drew (Mod.drew _ _)).2 a ao
  refine cast ?_ this
  congr
  funext jQ ah
  simp))
theorem iF.nil {ops:Array Oper} {E:Env} {k:List Item} {w:World} (h:gQ P f R n E k w):iF P f R n C A N ef Z ops [] E k w:=fun a ao=>h a ao
theorem iF.q {ops:Array Oper} {o:Oper} {i:Nat} {l:List Nat} {E:Env} {k:List Item} {w:World} {v:Value} (dJ:ops[i]?=some o) (bg:A i=false) (dL:aY P o E (sP N ef C i) v)
 (hw:want n ops E o.guard=some true) (hd:iU n o.dst=true) (h:iF P f R n C A N ef Z ops l (pu o.dst v E) k w):iF P f R n C A N ef Z ops (i::l) E k w:=by
 intro a ao;simp only [wd,gF,dJ,vQ ao hw,bg,if_true,Bool.false_eq_true,if_false];exact ⟨v,dL a ao.has,h _ (ao.put hd v)⟩
theorem iF.adJ {ops : Array Oper} {o : Oper} {i : Nat} {l : List Nat} {E : Env} {k : List Item} {w : World} {v : Value} (dJ : ops[i]? = some o) (bg : A i = false) (gw : N i = true) (dL : aY P o E (fun ah => ah = ef) v)
    (hw : want n ops E o.guard = some true) (hd : iU n o.dst = true) (h : iF P f R n C A N ef Z ops l (pu o.dst v E) k w) : iF P f R n C A N ef Z ops (i :: l) E k w :=
  iF.q dJ bg (by have : sP N ef C i = fun ah => ah = ef := by funext ah; unfold sP; rw [if_pos gw]
                 rw [this]; exact dL) hw hd h
theorem iF.adK {ops : Array Oper} {o : Oper} {i : Nat} {l : List Nat} {E : Env} {k : List Item} {w : World} {v : Value} (dJ : ops[i]? = some o) (bg : A i = false) (gw : N i = false) (dL : aY P o E C v)
    (hw : want n ops E o.guard = some true) (hd : iU n o.dst = true) (h : iF P f R n C A N ef Z ops l (pu o.dst v E) k w) : iF P f R n C A N ef Z ops (i :: l) E k w :=
  iF.q dJ bg (by have : sP N ef C i = C := by funext ah; unfold sP; rw [if_neg (by rw [gw]; simp)]
                 rw [this]; exact dL) hw hd h
theorem iF.dt {ops:Array Oper} {o:Oper} {i:Nat} {l:List Nat} {E:Env} {k:List Item} {w:World} (dJ:ops[i]?=some o)
 (hw:want n ops E o.guard=some false) (hd:iU n o.dst=true) (h:iF P f R n C A N ef Z ops l (pu o.dst undef E) k w):iF P f R n C A N ef Z ops (i::l) E k w:=by
 intro a ao;simp only [wd,gF,dJ,vQ ao hw,Bool.false_eq_true,if_false];exact h _ (ao.put hd undef)
theorem iF.act {ops:Array Oper} {o:Oper} {i:Nat} {l:List Nat} {E:Env} {k:List Item} {w:World} (dJ:ops[i]?=some o) (bg:A i=true)
 (hw:want n ops E o.guard=some true) (hd:iU n o.dst=true) (ao:gl P o E w (fun v ah=>(i=Z∨C ah)∧iF P f R n C A N ef Z ops l (pu o.dst v E) k ah)):iF P f R n C A N ef Z ops (i::l) E k w:=by
 intro a aF;simp only [wd,gF,dJ,vQ aF hw,bg,if_true];exact sq (fun v ah bG=>⟨bG.1,bG.2 _ (aF.put hd v)⟩) (ao a aF.has)
end
end Go.wC
namespace Go.aA
open Go Go.ab
def lV {R:Nat→Prop} (lu oG:TypeId) (fS:Nat) (q:List bI):dc R:=nt fun x:Value×Nat×List ((Int×Int)×bI)=>wg (k6 x.2.2 q) (bA [az fS [x.1,.map (some x.2.1)] lu,oF n0 oG 2 x.1 (q.map bI.pl),mR tQ q3 x.2.1 x.2.2])
theorem ar.tR {R bB:Nat→Prop} {w0 w:World} {L:List (dc R)} {lu oG:TypeId} {fS pH:Nat} {q:List bI} {m:List ((Int×Int)×bI)} {Bw:Value} (h:ar R bB w0 w L) (i:Nat) (al:L[i]?=some (bA [az fS [Bw,.map (some pH)] lu,oF n0 oG 2 Bw (q.map bI.pl),mR tQ q3 pH m])) (dL:k6 m q):ar R bB w0 w (L.set i (lV lu oG fS q)):=h.imp al fun F x=>⟨(Bw,pH,m),dL,x⟩
end Go.aA
namespace Go.ab
open Go.aA
structure Du {cr α:Type} (f:cr→α→cr×Bool) (s:cr) (l cur:List α) (i j:Nat):Prop where
 len:cur.length=l.length
 adL:i≤j
 kept:cur.take i=v_ f s (l.take j)
 rest:cur.drop j=l.drop j
theorem Du.at {cr α:Type} {f:cr→α→cr×Bool} {s:cr} {l cur:List α} {i j:Nat} (h:Du f s l cur i j) {x:α} (ad:cur[j]?=some x):l[j]?=some x:=by
 have h1:=congrArg (fun z:List α=>z[0]?) h.rest;simp only [List.getElem?_drop,Nat.add_zero] at h1;rw [←h1]; exact ad
theorem Du.off {cr α:Type} {f:cr→α→cr×Bool} {s:cr} {l cur:List α} {i j:Nat} (h:Du f s l cur i j) {x:α} (ad:l[j]?=some x) (U:(f (KZ f s (l.take j)) x).2=true):Du f s l cur i (j+1):=
 ⟨h.len,Nat.le_succ_of_le h.adL,by rw [adF ad,U,h.kept]; simp,by rw [←List.drop_drop,h.rest,List.drop_drop]⟩
theorem adM {x a:bI}:Dr x a=true↔x.query > a.query∨x.query=a.query∧x.seq > a.seq:=by unfold Dr; simp
theorem G0 {q:List bI} {a:bI} (h:¬ (0≤a.slot∧a.slot < 4∧0≤a.shard∧a.shard < 6)):q4 q a=false∧iY q a=q:=by
 have:q4 q a=false:=by unfold q4 GY; rw [decide_eq_false h]; rfl
 exact ⟨this,by unfold iY; rw [this]; rfl⟩
theorem Ti {q:List bI} {a x:bI} (ad:lr q a.pl=some x) (h:x.query > a.query∨x.query=a.query∧x.seq > a.seq):q4 q a=false∧iY q a=q:=by
 have:q4 q a=false:=by unfold q4; rw [ad]; simp only [adM.2 h]; simp
 exact ⟨this,by unfold iY; rw [this]; rfl⟩
theorem Tj {q:List bI} {a x:bI} (aB:0≤a.slot∧a.slot < 4∧0≤a.shard∧a.shard < 6) (ad:lr q a.pl=some x) (h:¬ (x.query > a.query∨x.query=a.query∧x.seq > a.seq)):q4 q a=true∧iY q a=q.map fun x=>if x.pl=a.pl then a else x:=by
 have aI:Dr x a=false:=(by unfold Dr; exact decide_eq_false h);have:q4 q a=true:=by unfold q4 GY; rw [ad,decide_eq_true aB]; simp [aI]
 exact ⟨this,by unfold iY; rw [if_pos this,ad]⟩
theorem adN {q:List bI} {a:bI} (aB:0≤a.slot∧a.slot < 4∧0≤a.shard∧a.shard < 6) (ad:lr q a.pl=none):q4 q a=true∧iY q a=q++[a]:=by
 have:q4 q a=true:=by unfold q4 GY; rw [ad,decide_eq_true aB]; rfl
 exact ⟨this,by unfold iY; rw [if_pos this,ad]⟩
end Go.ab
namespace Go.ab
open Go.aA
def Tk (n:Int):Bool:=decide (0≤n∧n≤2147483647)
def x6 (l:List Int):Bool:=l.all Tk
def zG (x:dk):Bool:=decide (0≤x.cd∧x.cd≤4) && word x.word
def zH (slot shard:Int):Bool:=decide (0≤slot∧slot < 4∧0≤shard∧shard < 6)
def Tl:dk:=⟨0,[]⟩
def wD (a:bI):Bool:=if a.first=true then decide (a.after=Tl) else zG a.after
def oH (a:bI):Bool:=wD a && zH a.slot a.shard && x6 [a.query,a.seq,a.hf] && asked a.text && decide (0≤a.k∧a.k≤4∧1≤a.batch∧a.batch≤5)
theorem adO {l:List Int} {i:Nat} {x:Int} (ad:l[i]?=some x) (h:¬ (0≤x∧x≤2147483647)):false=x6 l:=by
 symm;unfold x6;rw [List.all_eq_false];exact ⟨x,List.mem_of_getElem? ad,by unfold Tk; simpa using h⟩
theorem adP {l:List Int} {i:Nat} (h:∀ z∈l.take i,0≤z∧z≤2147483647) (al:l.length≤i):true=x6 l:=by
 symm;rw [List.take_of_length_le al] at h;unfold x6;rw [List.all_eq_true];intro z b';exact decide_eq_true (h z b')
theorem adQ {l:List Int} {i:Nat} {x:Int} (h:∀ z∈l.take i,0≤z∧z≤2147483647) (ad:l[i]?=some x) (aa:0≤x∧x≤2147483647):∀ z∈l.take (i+1),0≤z∧z≤2147483647:=by
 intro z b';rw [List.take_add_one,ad] at b';simp only [Option.toList_some,List.mem_append,List.mem_singleton] at b';rcases b' with b'|rfl
 · exact h z b'
 · exact aa
theorem adR {x:dk} (h:¬ (0≤x.cd∧x.cd≤4)):false=zG x:=by unfold zG; rw [decide_eq_false h]; rfl
theorem adS {x:dk} {b:Bool} (h:0≤x.cd∧x.cd≤4) (U:b=word x.word):b=zG x:=by unfold zG; rw [decide_eq_true h,U]; rfl
theorem adT {slot shard:Int} {b:Bool} {p:Prop} [Decidable p] (U:b=decide p) (h:p↔(0≤slot∧slot < 4∧0≤shard∧shard < 6)):b=zH slot shard:=by
 unfold zH; rw [U]; exact decide_eq_decide.2 h
theorem adU {slot shard:Int} (h:¬ (0≤slot∧slot < 4∧0≤shard∧shard < 6)):false=zH slot shard:=(decide_eq_false h).symm
theorem Tm {a:bI} {b:Bool} (h:a.first=true) (U:b=decide (a.after=Tl)):b=wD a:=by unfold wD; rw [if_pos h]; exact U
theorem Tn {a:bI} {b:Bool} (h:a.first=false) (U:b=zG a.after):b=wD a:=by unfold wD; rw [h]; exact U
theorem adV {a:bI} (h:wD a=false):false=oH a:=by unfold oH; rw [h]; rfl
theorem adW {a:bI} (h:zH a.slot a.shard=false):false=oH a:=by unfold oH; rw [h]; simp
theorem adX {a:bI} (h:x6 [a.query,a.seq,a.hf]=false):false=oH a:=by unfold oH; rw [h]; simp
theorem adY {a:bI} (h:asked a.text=false):false=oH a:=by unfold oH; rw [h]; simp
theorem adZ {a:bI} (h:¬ (0≤a.k∧a.k≤4∧1≤a.batch∧a.batch≤5)):false=oH a:=by unfold oH; rw [decide_eq_false h]; simp
theorem ad0 {a:bI} {b:Bool} (h1:wD a=true) (aa:zH a.slot a.shard=true) (aq:x6 [a.query,a.seq,a.hf]=true) (a6:asked a.text=true) (bT:0≤a.k∧a.k≤4∧1≤a.batch) (U:b=decide (a.batch≤5)):b=oH a:=by
 unfold oH;rw [h1,aa,aq,a6,U];simp only [Bool.true_and];exact decide_eq_decide.2 (by omega)
end Go.ab
namespace Go.aA
open Go
def Dv:Nat→Env→Option Value
 | _,[]=>none
 | i,(j,v)::r=>match Nat.beq i j with
  | true=>some v
  | false=>Dv i r
theorem K0:∀ (i:Nat) (E:Env),Dv i E=mv i E
 | _,[]=>rfl
 | i,(j,v)::r=>by
  unfold Dv mv
  simp only
  cases Nat.beq i j with
  | true=>rfl
  | false=>exact K0 i r
def wE (E:Env):Operand→Option Value
 | .tmp t=>Dv t E
 | .const v=>some v
 | .global g=>some (.pointer (some ⟨g,0,none⟩))
 | .func f=>some (.func (.func f) #[] #[])
theorem zI (E:Env) (x:Operand):wE E x=aC E x:=by
 cases x with
 | tmp t=>exact K0 t E
 | _=>rfl
def G1 (n:Nat) (ops:Array Oper) (E:Env):Option (Nat×Bool)→Option Bool
 | none=>some true
 | some (j,b)=>match (ops[j]?).bind (·.dst) with
  | some d=>match Dv d E with
   | some (.bool c)=>match Nat.blt d n with
    | true=>some (c==b)
    | false=>none
   | some (.tuple _)=>some false
   | _=>none
  | none=>none
theorem Bx (n:Nat) (ops:Array Oper) (E:Env) (g:Option (Nat×Bool)):G1 n ops E g=want n ops E g:=by
 unfold G1 want;simp only [K0];rfl
def wF (E:Env):Op→Option Value
 | .move x=>wE E x
 | .assign x=>wE E x
 | .pick c x y=>match wE E c with
  | some (.bool true)=>wE E x
  | some (.bool false)=>wE E y
  | _=>none
 | .extract x i=>match wE E x with
  | some (.tuple vs)=>vs[i]?
  | _=>none
 | .nilCheck x=>match wE E x with
  | some (.pointer (some ⟨b,o,none⟩))=>some (.pointer (some ⟨b,o,none⟩))
  | _=>none
 | _=>none
inductive x7 where
 | it (k:List Item)
 | op (ops:Array Oper) (l:List Oper) (k:List Item)
def go (n:Nat):Nat→x7→Env→Option (x7×Env)
 | 0,p,E=>some (p,E)
 | m+1,.it (.code (.seq x y)::k),E=>go n m (.it (.code x::.code y::k)) E
 | m+1,.it (.code .skip::k),E=>go n m (.it k) E
 | m+1,.it (.code (.block id c)::k),E=>go n m (.it (.code c::.inBlock id::k)) E
 | m+1,.it (.inBlock _::k),E=>go n m (.it k) E
 | m+1,.it (.code (.exit id)::k),E=>match exitTo id k with
  | some iy=>go n m (.it iy) E
  | none=>none
 | m+1,.it (.code (.cond c x y)::k),E=>match wE E c with
  | some (.bool true)=>go n m (.it (.code x::k)) E
  | some (.bool false)=>go n m (.it (.code y::k)) E
  | _=>none
 | m+1,.it (.code (.region _ ops false)::k),E=>go n m (.op ops ops.toList k) E
 | m+1,.op _ [] k,E=>go n m (.it k) E
 | m+1,.op ops (o::l) k,E=>match iU n o.dst with
  | true=>match G1 n ops E o.guard with
   | some true=>match wF E o.op with
    | some v=>match o.dst with
     | some d=>go n m (.op ops l k) ((d,v)::E)
     | none=>go n m (.op ops l k) E
    | none=>none
   | some false=>match o.dst with
    | some d=>go n m (.op ops l k) ((d,undef)::E)
    | none=>go n m (.op ops l k) E
   | none=>none
  | false=>none
 | _+1,_,_=>none
section
variable {P:Program} {f:FuncId} {R:Ending→World→Prop} {n:Nat} {w:World}
def x7.h (P:Program) (f:FuncId) (R:Ending→World→Prop) (n:Nat) (w:World):x7→Env→Prop
 | .it k,E=>gQ P f R n E k w
 | .op ops l k,E=>e4 P f R n ops l E k w
theorem G2 {E:Env} {C:World→Prop} {o:Oper} {v:Value} (h:wF E o.op=some v):aY P o E C v:=by
 obtain ⟨d,op,ty,pos,af,gd⟩:=o
 cases op with
 | move x=>simp only [wF,zI] at h; exact aY.move h
 | assign x=>simp only [wF,zI] at h; exact aY.assign h
 | pick c x y =>
  simp only [wF,zI] at h
  split at h
  · rename_i an; exact aY.Xq an h
  · rename_i an; exact aY.Xr an h
  · cases h
 | extract x i =>
  simp only [wF,zI] at h
  split at h
  · rename_i ad; exact aY.extract ad h
  · cases h
 | nilCheck x =>
  simp only [wF,zI] at h
  split at h
  · rename_i ad; cases h; exact aY.YD ad
  · cases h
 | _=>simp [wF] at h
theorem G3:∀ (m:Nat) (p:x7) (E:Env) {G4:x7} {hX:Env},go n m p E=some (G4,hX)→x7.h P f R n w G4 hX→x7.h P f R n w p E:=by
 intro m
 induction m with
 | zero =>
  intro p E G4 hX h aa
  simp only [go,Option.some.injEq,Prod.mk.injEq] at h
  obtain ⟨rfl,rfl⟩:=h
  exact aa
 | succ m bq =>
  intro p E G4 hX h aa
  cases p with
  | it k =>
   cases k with
   | nil=>simp [go] at h
   | cons x k =>
    cases x with
    | code c =>
     cases c with
     | seq x y=>exact W7 (bq _ _ h aa)
     | skip=>exact W8 (bq _ _ h aa)
     | block id c=>exact W9 (bq _ _ h aa)
     | exit id =>
      unfold go at h
      split at h
      · rename_i hk; exact W' hk (bq _ _ h aa)
      · cases h
     | cond c x y =>
      unfold go at h
      split at h
      · rename_i an; rw [zI] at an; exact Xa an (bq _ _ h aa)
      · rename_i an; rw [zI] at an; exact Xb an (bq _ _ h aa)
      · cases h
     | region id ops ad1 =>
      cases ad1 with
      | true=>simp [go] at h
      | false =>
       have aq:e4 P f R n ops ops.toList E k w:=bq _ _ h aa
       have a6:=Xg (id:=id) (l:=ops.toList) aq
       rwa [Array.toArray_toList] at a6
     | _=>simp [go] at h
    | inBlock id=>exact W_ (bq _ _ h aa)
    | _=>simp [go] at h
  | op ops l k =>
   cases l with
   | nil=>exact e4.nil (bq _ _ h aa)
   | cons o l =>
    unfold go at h
    split at h
    · rename_i hd
      split at h
      · rename_i hw
        rw [Bx] at hw
        split at h
        · rename_i v bG
          split at h
          · rename_i d me
            refine e4.q (G2 bG) hw hd ?_
            rw [me]
            exact bq _ _ h aa
          · rename_i me
            refine e4.q (G2 bG) hw hd ?_
            rw [me]
            exact bq _ _ h aa
        · cases h
      · rename_i hw
        rw [Bx] at hw
        split at h
        · rename_i d me
          refine e4.dt hw hd ?_
          rw [me]
          exact bq _ _ h aa
        · rename_i me
          refine e4.dt hw hd ?_
          rw [me]
          exact bq _ _ h aa
      · cases h
    · cases h
theorem gQ.ae {E hX:Env} {k iy:List Item} (m:Nat) (h:aA.go n m (.it k) E=some (.it iy,hX)) (aa:gQ P f R n hX iy w):gQ P f R n E k w:=G3 m (.it k) E h aa
theorem gQ.go {E hX:Env} {k iy:List Item} {ops:Array Oper} {l:List Oper} (m:Nat) (h:aA.go n m (.it k) E=some (.op ops l iy,hX)) (aa:e4 P f R n ops l hX iy w):gQ P f R n E k w:=G3 m (.it k) E h aa
theorem e4.ae {E hX:Env} {k iy:List Item} {ops:Array Oper} {l:List Oper} (m:Nat) (h:aA.go n m (.op ops l k) E=some (.it iy,hX)) (aa:gQ P f R n hX iy w):e4 P f R n ops l E k w:=G3 m (.op ops l k) E h aa
theorem e4.go {E hX:Env} {k iy:List Item} {ops To:Array Oper} {l kE:List Oper} (m:Nat) (h:aA.go n m (.op ops l k) E=some (.op To kE iy,hX)) (aa:e4 P f R n To kE hX iy w):e4 P f R n ops l E k w:=G3 m (.op ops l k) E h aa
end
end Go.aA
set_option linter.unusedSectionVars false
namespace Go.aA
open Go
section
variable {P:Program} {f:FuncId} {R:Ending→World→Prop} {n:Nat}
theorem e4.z {ops:Array Oper} {o:Oper} {l:List Oper} {E:Env} {k:List Item} {w:World} {v:Value} (dL:aY P o E (fun ah=>ah=w) v) (h:e4 P f R n ops l (pu o.dst v E) k w)
 (hw:want n ops E o.guard=some true:=by exact rfl) (hd:iU n o.dst=true:=by exact rfl):e4 P f R n ops (o::l) E k w:=e4.q dL hw hd h
theorem e4.ev {ops:Array Oper} {o:Oper} {l:List Oper} {E:Env} {k:List Item} {w:World} {c:Bool} (dL:aY P o E (fun ah=>ah=w) (.bool c)) (h:∀ b,b=c→e4 P f R n ops l (pu o.dst (.bool b) E) k w)
 (hw:want n ops E o.guard=some true:=by exact rfl) (hd:iU n o.dst=true:=by exact rfl):e4 P f R n ops (o::l) E k w:=e4.fS dL hw hd h
theorem e4.ac {ops:Array Oper} {o:Oper} {l:List Oper} {E:Env} {k:List Item} {w:World} (ao:gl P o E w (fun v ah=>e4 P f R n ops l (pu o.dst v E) k ah))
 (hw:want n ops E o.guard=some true:=by exact rfl) (hd:iU n o.dst=true:=by exact rfl):e4 P f R n ops (o::l) E k w:=e4.act hw hd ao
theorem e4.aX {ops:Array Oper} {o:Oper} {l:List Oper} {E:Env} {k:List Item} {w:World} {p:Prop} {i:Decidable p} (dL:aY P o E (fun ah=>ah=w) (.bool (@decide p i))) (aQ:p→e4 P f R n ops l (pu o.dst (.bool true) E) k w) (bd:¬ p→e4 P f R n ops l (pu o.dst (.bool false) E) k w)
 (hw:want n ops E o.guard=some true:=by exact rfl) (hd:iU n o.dst=true:=by exact rfl):e4 P f R n ops (o::l) E k w:=e4.fS dL hw hd fun b U=>by
 cases b
 · exact bd (of_decide_eq_false U.symm)
 · exact aQ (of_decide_eq_true U.symm)
theorem e4.h8 {ops:Array Oper} {o:Oper} {l:List Oper} {E:Env} {k:List Item} {w:World} {α:Type} [BEq α] [LawfulBEq α] {a c:α} (dL:aY P o E (fun ah=>ah=w) (.bool (a==c))) (aQ:a=c→e4 P f R n ops l (pu o.dst (.bool true) E) k w) (bd:a≠c→e4 P f R n ops l (pu o.dst (.bool false) E) k w)
 (hw:want n ops E o.guard=some true:=by exact rfl) (hd:iU n o.dst=true:=by exact rfl):e4 P f R n ops (o::l) E k w:=e4.fS dL hw hd fun b U=>by
 cases b
 · exact bd (ne_of_beq_false U.symm)
 · exact aQ (eq_of_beq U.symm)
theorem e4.lW {ops:Array Oper} {o:Oper} {l:List Oper} {E:Env} {k:List Item} {w:World} {α:Type} [BEq α] [LawfulBEq α] {a c:α} (dL:aY P o E (fun ah=>ah=w) (.bool (!(a==c)))) (aQ:a≠c→e4 P f R n ops l (pu o.dst (.bool true) E) k w) (bd:a=c→e4 P f R n ops l (pu o.dst (.bool false) E) k w)
 (hw:want n ops E o.guard=some true:=by exact rfl) (hd:iU n o.dst=true:=by exact rfl):e4 P f R n ops (o::l) E k w:=e4.fS dL hw hd fun b U=>by
 cases b
 · exact bd (Fk U)
 · exact aQ (Fj U)
theorem e4.By {ops:Array Oper} {o:Oper} {l:List Oper} {E:Env} {k:List Item} {w:World} {c:Bool} (dL:aY P o E (fun ah=>ah=w) (.bool c)) (an:c=true) (h:e4 P f R n ops l (pu o.dst (.bool true) E) k w)
 (hw:want n ops E o.guard=some true:=by exact rfl) (hd:iU n o.dst=true:=by exact rfl):e4 P f R n ops (o::l) E k w:=e4.q (an▸dL) hw hd h
theorem e4.wG {ops:Array Oper} {o:Oper} {l:List Oper} {E:Env} {k:List Item} {w:World} {c:Bool} (dL:aY P o E (fun ah=>ah=w) (.bool c)) (an:c=false) (h:e4 P f R n ops l (pu o.dst (.bool false) E) k w)
 (hw:want n ops E o.guard=some true:=by exact rfl) (hd:iU n o.dst=true:=by exact rfl):e4 P f R n ops (o::l) E k w:=e4.q (an▸dL) hw hd h
theorem aY.fV {E:Env} {d:Option Tmp} {ty:TypeId} {pos:String} {af:Array Edge} {gd:Option (Nat×Bool)} {w:World} {t:TypeId} {x:Operand} {b off m by_:Nat} {z cs:List Value} {v:Value} {e:TypeId} (aQ:dX P t=some (false,m,by_,z)) (U:ez w b cs e)
 (ad:aC E x=some (ptr b off):=by exact rfl) (an:cs[off]?=some v:=by exact rfl):aY P ⟨d,.load t x,ty,pos,af,gd⟩ E (fun ah=>ah=w) v:=aY.cT aQ ad fun _ e=>e▸U.cell off _ an
theorem aY.dT {E:Env} {d:Option Tmp} {ty:TypeId} {pos:String} {af:Array Edge} {gd:Option (Nat×Bool)} {w:World} {t:TypeId} {x:Operand} {b off m by_:Nat} {z:List Value} {v:Value} (aQ:dX P t=some (false,m,by_,z)) (aB:Row w b off [v])
 (ad:aC E x=some (ptr b off):=by exact rfl):aY P ⟨d,.load t x,ty,pos,af,gd⟩ E (fun ah=>ah=w) v:=aY.cT aQ ad fun _ e=>e▸aB
theorem e4.a_ {ops:Array Oper} {l:List Oper} {E:Env} {k:List Item} {w:World} {d d2:Option Tmp} {ty ad2:TypeId} {pos ad3:String} {af ad4:Array Edge} {gd Tp:Option (Nat×Bool)} {t t2:TypeId} {x x2:Operand} {i b G5 off o m by_:Nat} {z cs:List Value} {v:Value} {e:TypeId}
 (bd:dQ P t i=some o) (aQ:dX P t2=some (false,m,by_,z)) (U:ez w b cs e) (h:e4 P f R n ops l (pu d2 v (pu d (ptr b (G5+o)) E)) k w)
 (ad:aC E x=some (ptr b G5):=by exact rfl) (cY:aC (pu d (ptr b (G5+o)) E) x2=some (ptr b off):=by exact rfl) (an:cs[off]?=some v:=by exact rfl)
 (hw:want n ops E gd=some true:=by exact rfl) (hd:iU n d=true:=by exact rfl) (eL:want n ops (pu d (ptr b (G5+o)) E) Tp=some true:=by exact rfl) (K1:iU n d2=true:=by exact rfl) :
 e4 P f R n ops (⟨d,.fieldAddr t x i,ty,pos,af,gd⟩::⟨d2,.load t2 x2,ad2,ad3,ad4,Tp⟩::l) E k w:=
 e4.q (aY.fieldAddr bd ad) hw hd (e4.q (aY.fV aQ U cY an) eL K1 h)
theorem gl.st {E:Env} {K:Value→World→Prop} {d:Option Tmp} {ty:TypeId} {pos:String} {af:Array Edge} {gd:Option (Nat×Bool)} {w:World} {t e:TypeId} {x y:Operand} {v:Value} {b off n by_:Nat} {g:Bool} {z cs vs:List Value} (aQ:dX P t=some (g,n,by_,z)) (U:ez w b cs e)
 (eC:∀ ah,Mod (fun i=>i+1=b+1) w ah→ez ah b (cs.take off++vs++cs.drop (off+n)) e→K undef ah)
 (ad:aC E x=some (ptr b off):=by exact rfl) (av:aC E y=some v:=by exact rfl) (bG:v.cells.toList=vs:=by exact rfl) (aI:vs.length=n:=by exact rfl) (h1:vs.all (·.oneCell')=true:=by exact rfl) (a':(off+n).ble cs.length=true:=by exact rfl) :
 gl P ⟨d,.store t x y,ty,pos,af,gd⟩ E w K:=gl.store aQ ad av bG aI h1 U (Nat.le_of_ble_eq_true a') fun ah hm _ hk=>eC ah hm hk
theorem dx {a b:Nat} (h:a.ble b=true:=by exact rfl):a≤b:=Nat.le_of_ble_eq_true h
theorem Bz {p:Prop} [Decidable p] (h:true=decide p):p:=of_decide_eq_true h.symm
theorem BA {p:Prop} [Decidable p] (h:false=decide p):¬ p:=of_decide_eq_false h.symm
end
section
variable {R bB:Nat→Prop} {w0 w ah:World} {L:List (dc R)} {i:Nat} {A:dc R}
theorem ar.k {b:Nat} {cs:List Value} {e:TypeId} (h:ar R bB w0 w L) (i:Nat) (al:L[i]?=some (az b cs e):=by exact rfl):ez w b cs e:=h.YS al
theorem ar.BB (is G6:List Nat) (h:ar R bB w0 w L) (a':((is++G6).all fun i=>decide (i < L.length))=true) (aI:(is++G6).Nodup):ar R bB w0 w ((is.filterMap fun i=>L[i]?)++[bA (G6.filterMap fun i=>L[i]?)]):=by
 have h1:=h.dj (is++G6) a' aI;rw [List.filterMap_append] at h1;exact h1.close
theorem ar.un (i:Nat) (h:ar R bB w0 w L) {L2:List (dc R)} (al:L[i]?=some (bA L2)) (is:List Nat) (a':((is++[i]).all fun i=>decide (i < L.length))=true) (aI:(is++[i]).Nodup):ar R bB w0 w ((is.filterMap fun i=>L[i]?)++L2):=by
 have h1:=h.dj (is++[i]) a' aI;rw [List.filterMap_append,List.filterMap_cons,al] at h1;exact h1.open
theorem ar.x8 (h:ar R bB w0 w L) (i:Nat) (al:L[i]?=some A):Mod bB w0 w∧∃ F',A.p F' w∧∀ b,F' b→b < w.heap.size∧(bB b∨w0.heap.size≤b):=by
 obtain ⟨F,h1,aa,_⟩:=h.act al;exact ⟨h.mod,F,h1,fun b U=>⟨(aa b U).2,(aa b U).1.1⟩⟩
theorem ar.rt {v g_:Value} (h:ar R bB w0 w L) (i:Nat) (al:L[i]?=some A) (bG:v=g_):aj (fun aD ai=>aD=g_∧Mod bB w0 ai∧∃ cO,A.p cO ai∧∀ b,cO b→b < ai.heap.size∧(bB b∨w0.heap.size≤b)) (.returned v) w:=by
 obtain ⟨h1,F,aa,aq⟩:=h.x8 i al;exact ⟨v,rfl,bG,h1,F,aa,aq⟩
theorem ar.ty (mA:dc R) (i:Nat) (h:ar R bB w0 w L) (al:L[i]?=some A) (bg:∀ F,A.p F w→mA.p F w):ar R bB w0 w (L.set i mA):=h.imp al bg
end
section
variable {R bB:Nat→Prop} {w0 w:World} {L:List (dc R)}
theorem ar.Tq (h:ar R bB w0 w L) (kf:L=[]:=by exact rfl):ar R bB w0 w []:=kf▸h
theorem ar.cJ {gz:dc R} (h:ar R bB w0 w L) (kf:L=[gz]:=by exact rfl):ar R bB w0 w [gz]:=kf▸h
theorem ar.cK {gz hv:dc R} (h:ar R bB w0 w L) (kf:L=[gz,hv]:=by exact rfl):ar R bB w0 w [gz,hv]:=kf▸h
theorem ar.dM {gz hv iu:dc R} (h:ar R bB w0 w L) (kf:L=[gz,hv,iu]:=by exact rfl):ar R bB w0 w [gz,hv,iu]:=kf▸h
theorem ar.bu {gz hv iu jw:dc R} (h:ar R bB w0 w L) (kf:L=[gz,hv,iu,jw]:=by exact rfl):ar R bB w0 w [gz,hv,iu,jw]:=kf▸h
theorem ar.c6 {gz hv iu jw k7:dc R} (h:ar R bB w0 w L) (kf:L=[gz,hv,iu,jw,k7]:=by exact rfl):ar R bB w0 w [gz,hv,iu,jw,k7]:=kf▸h
theorem ar.n6 {gz hv iu jw k7 nz:dc R} (h:ar R bB w0 w L) (kf:L=[gz,hv,iu,jw,k7,nz]:=by exact rfl):ar R bB w0 w [gz,hv,iu,jw,k7,nz]:=kf▸h
theorem ar.n7 {gz hv iu jw k7 nz q5:dc R} (h:ar R bB w0 w L) (kf:L=[gz,hv,iu,jw,k7,nz,q5]:=by exact rfl):ar R bB w0 w [gz,hv,iu,jw,k7,nz,q5]:=kf▸h
theorem ar.n8 {gz hv iu jw k7 nz q5 tS:dc R} (h:ar R bB w0 w L) (kf:L=[gz,hv,iu,jw,k7,nz,q5,tS]:=by exact rfl):ar R bB w0 w [gz,hv,iu,jw,k7,nz,q5,tS]:=kf▸h
theorem ar.iZ {gz hv iu jw k7 nz q5 tS x9:dc R} (h:ar R bB w0 w L) (kf:L=[gz,hv,iu,jw,k7,nz,q5,tS,x9]:=by exact rfl):ar R bB w0 w [gz,hv,iu,jw,k7,nz,q5,tS,x9]:=kf▸h
theorem ar.n10 {gz hv iu jw k7 nz q5 tS x9 Dw:dc R} (h:ar R bB w0 w L) (kf:L=[gz,hv,iu,jw,k7,nz,q5,tS,x9,Dw]:=by exact rfl):ar R bB w0 w [gz,hv,iu,jw,k7,nz,q5,tS,x9,Dw]:=kf▸h
theorem ar.n11 {gz hv iu jw k7 nz q5 tS x9 Dw Tr:dc R} (h:ar R bB w0 w L) (kf:L=[gz,hv,iu,jw,k7,nz,q5,tS,x9,Dw,Tr]:=by exact rfl):ar R bB w0 w [gz,hv,iu,jw,k7,nz,q5,tS,x9,Dw,Tr]:=kf▸h
end
section
variable {R bB:Nat→Prop} {w0 w:World} {L:List (dc R)}
theorem ar.aG {gz:dc R} (h:ar R bB w0 w L) (is:List Nat) (kh:Nat) (a':((is++[kh]).all fun i=>decide (i < L.length))=true) (aI:(is++[kh]).Nodup) (a8:L[kh]?=some gz:=by exact rfl):ar R bB w0 w ((is.filterMap fun i=>L[i]?)++[bA [gz]]):=by
 have ad:=h.BB is [kh] a' aI;simp only [List.filterMap_cons,List.filterMap_nil,a8] at ad;exact ad
theorem ar.aN {gz hv:dc R} (h:ar R bB w0 w L) (is:List Nat) (kh lX:Nat) (a':((is++[kh,lX]).all fun i=>decide (i < L.length))=true) (aI:(is++[kh,lX]).Nodup) (a8:L[kh]?=some gz:=by exact rfl) (h1:L[lX]?=some hv:=by exact rfl):ar R bB w0 w ((is.filterMap fun i=>L[i]?)++[bA [gz,hv]]):=by
 have ad:=h.BB is [kh,lX] a' aI;simp only [List.filterMap_cons,List.filterMap_nil,a8,h1] at ad;exact ad
theorem ar.bn {gz hv iu:dc R} (h:ar R bB w0 w L) (is:List Nat) (kh lX n1:Nat) (a':((is++[kh,lX,n1]).all fun i=>decide (i < L.length))=true) (aI:(is++[kh,lX,n1]).Nodup) (a8:L[kh]?=some gz:=by exact rfl) (h1:L[lX]?=some hv:=by exact rfl) (aa:L[n1]?=some iu:=by exact rfl):ar R bB w0 w ((is.filterMap fun i=>L[i]?)++[bA [gz,hv,iu]]):=by
 have ad:=h.BB is [kh,lX,n1] a' aI;simp only [List.filterMap_cons,List.filterMap_nil,a8,h1,aa] at ad;exact ad
theorem ar.bj {gz hv iu jw:dc R} (h:ar R bB w0 w L) (is:List Nat) (kh lX n1 q6:Nat) (a':((is++[kh,lX,n1,q6]).all fun i=>decide (i < L.length))=true) (aI:(is++[kh,lX,n1,q6]).Nodup) (a8:L[kh]?=some gz:=by exact rfl) (h1:L[lX]?=some hv:=by exact rfl) (aa:L[n1]?=some iu:=by exact rfl) (aq:L[q6]?=some jw:=by exact rfl):ar R bB w0 w ((is.filterMap fun i=>L[i]?)++[bA [gz,hv,iu,jw]]):=by
 have ad:=h.BB is [kh,lX,n1,q6] a' aI;simp only [List.filterMap_cons,List.filterMap_nil,a8,h1,aa,aq] at ad;exact ad
theorem ar.cR {gz hv iu jw k7:dc R} (h:ar R bB w0 w L) (is:List Nat) (kh lX n1 q6 wH:Nat) (a':((is++[kh,lX,n1,q6,wH]).all fun i=>decide (i < L.length))=true) (aI:(is++[kh,lX,n1,q6,wH]).Nodup) (a8:L[kh]?=some gz:=by exact rfl) (h1:L[lX]?=some hv:=by exact rfl) (aa:L[n1]?=some iu:=by exact rfl) (aq:L[q6]?=some jw:=by exact rfl) (a6:L[wH]?=some k7:=by exact rfl):ar R bB w0 w ((is.filterMap fun i=>L[i]?)++[bA [gz,hv,iu,jw,k7]]):=by
 have ad:=h.BB is [kh,lX,n1,q6,wH] a' aI;simp only [List.filterMap_cons,List.filterMap_nil,a8,h1,aa,aq,a6] at ad;exact ad
theorem ar.c8 {gz hv iu jw k7 nz:dc R} (h:ar R bB w0 w L) (is:List Nat) (kh lX n1 q6 wH G7:Nat) (a':((is++[kh,lX,n1,q6,wH,G7]).all fun i=>decide (i < L.length))=true) (aI:(is++[kh,lX,n1,q6,wH,G7]).Nodup) (a8:L[kh]?=some gz:=by exact rfl) (h1:L[lX]?=some hv:=by exact rfl) (aa:L[n1]?=some iu:=by exact rfl) (aq:L[q6]?=some jw:=by exact rfl) (a6:L[wH]?=some k7:=by exact rfl) (bT:L[G7]?=some nz:=by exact rfl):ar R bB w0 w ((is.filterMap fun i=>L[i]?)++[bA [gz,hv,iu,jw,k7,nz]]):=by
 have ad:=h.BB is [kh,lX,n1,q6,wH,G7] a' aI;simp only [List.filterMap_cons,List.filterMap_nil,a8,h1,aa,aq,a6,bT] at ad;exact ad
end
end Go.aA
namespace Go.aA
open Go
def gd (n:Nat) (A:Nat→Bool) (ops:Array Oper):Nat→List Nat→Env→Option (List Nat×Env)
 | 0,l,E=>some (l,E)
 | m+1,i::l,E=>match ops[i]? with
  | some o=>match iU n o.dst with
   | true=>match G1 n ops E o.guard with
    | some true=>match A i with
     | false=>match wF E o.op with
      | some v=>match o.dst with
       | some d=>gd n A ops m l ((d,v)::E)
       | none=>gd n A ops m l E
      | none=>none
     | true=>none
    | some false=>match o.dst with
     | some d=>gd n A ops m l ((d,undef)::E)
     | none=>gd n A ops m l E
    | none=>none
   | false=>none
  | none=>none
 | _+1,[],_=>none
section
variable {P:Program} {f:FuncId} {R:Ending→World→Prop} {n:Nat} {C:World→Prop} {A:Nat→Bool} {Z:Nat} {w:World}
theorem gG.gd {ops:Array Oper} {k:List Item} (m:Nat) {l kE:List Nat} {E hX:Env} (h:aA.gd n A ops m l E=some (kE,hX)) (aa:gG P f R n C A Z ops kE hX k w):gG P f R n C A Z ops l E k w:=by
 induction m generalizing l E with
 | zero =>
  simp only [aA.gd,Option.some.injEq,Prod.mk.injEq] at h
  obtain ⟨rfl,rfl⟩:=h
  exact aa
 | succ m bq =>
  cases l with
  | nil=>simp [aA.gd] at h
  | cons i l =>
   unfold aA.gd at h
   split at h
   · rename_i o dJ
     split at h
     · rename_i hd
       split at h
       · rename_i hw
         rw [Bx] at hw
         split at h
         · rename_i bg
           split at h
           · rename_i v bG
             refine gG.q dJ bg (G2 bG) hw hd ?_
             split at h
             · rename_i d me; rw [me]; exact bq h
             · rename_i me; rw [me]; exact bq h
           · cases h
         · cases h
       · rename_i hw
         rw [Bx] at hw
         refine gG.dt dJ hw hd ?_
         split at h
         · rename_i d me; rw [me]; exact bq h
         · rename_i me; rw [me]; exact bq h
       · cases h
     · cases h
   · cases h
theorem gG.z {ops:Array Oper} {o:Oper} {i:Nat} {l:List Nat} {E:Env} {k:List Item} {v:Value} (dJ:ops[i]?=some o) (dL:aY P o E C v) (h:gG P f R n C A Z ops l (pu o.dst v E) k w)
 (bg:A i=false:=by exact rfl) (hw:want n ops E o.guard=some true:=by exact rfl) (hd:iU n o.dst=true:=by exact rfl):gG P f R n C A Z ops (i::l) E k w:=gG.q dJ bg dL hw hd h
theorem gG.ev {ops:Array Oper} {o:Oper} {i:Nat} {l:List Nat} {E:Env} {k:List Item} {c:Bool} (dJ:ops[i]?=some o) (dL:aY P o E C (.bool c)) (h:∀ b,b=c→gG P f R n C A Z ops l (pu o.dst (.bool b) E) k w)
 (bg:A i=false:=by exact rfl) (hw:want n ops E o.guard=some true:=by exact rfl) (hd:iU n o.dst=true:=by exact rfl):gG P f R n C A Z ops (i::l) E k w:=gG.fS dJ bg dL hw hd h
theorem gG.aX {ops:Array Oper} {o:Oper} {i:Nat} {l:List Nat} {E:Env} {k:List Item} {p:Prop} {j:Decidable p} (dJ:ops[i]?=some o) (dL:aY P o E C (.bool (@decide p j))) (aQ:p→gG P f R n C A Z ops l (pu o.dst (.bool true) E) k w) (bd:¬ p→gG P f R n C A Z ops l (pu o.dst (.bool false) E) k w)
 (bg:A i=false:=by exact rfl) (hw:want n ops E o.guard=some true:=by exact rfl) (hd:iU n o.dst=true:=by exact rfl):gG P f R n C A Z ops (i::l) E k w:=gG.fS dJ bg dL hw hd fun b U=>by
 cases b
 · exact bd (of_decide_eq_false U.symm)
 · exact aQ (of_decide_eq_true U.symm)
theorem gG.h8 {ops:Array Oper} {o:Oper} {i:Nat} {l:List Nat} {E:Env} {k:List Item} {α:Type} [BEq α] [LawfulBEq α] {a c:α} (dJ:ops[i]?=some o) (dL:aY P o E C (.bool (a==c))) (aQ:a=c→gG P f R n C A Z ops l (pu o.dst (.bool true) E) k w) (bd:a≠c→gG P f R n C A Z ops l (pu o.dst (.bool false) E) k w)
 (bg:A i=false:=by exact rfl) (hw:want n ops E o.guard=some true:=by exact rfl) (hd:iU n o.dst=true:=by exact rfl):gG P f R n C A Z ops (i::l) E k w:=gG.fS dJ bg dL hw hd fun b U=>by
 cases b
 · exact bd (ne_of_beq_false U.symm)
 · exact aQ (eq_of_beq U.symm)
theorem gG.lW {ops:Array Oper} {o:Oper} {i:Nat} {l:List Nat} {E:Env} {k:List Item} {α:Type} [BEq α] [LawfulBEq α] {a c:α} (dJ:ops[i]?=some o) (dL:aY P o E C (.bool (!(a==c)))) (aQ:a≠c→gG P f R n C A Z ops l (pu o.dst (.bool true) E) k w) (bd:a=c→gG P f R n C A Z ops l (pu o.dst (.bool false) E) k w)
 (bg:A i=false:=by exact rfl) (hw:want n ops E o.guard=some true:=by exact rfl) (hd:iU n o.dst=true:=by exact rfl):gG P f R n C A Z ops (i::l) E k w:=gG.fS dJ bg dL hw hd fun b U=>by
 cases b
 · exact bd (Fk U)
 · exact aQ (Fj U)
theorem gG.ac {ops:Array Oper} {o:Oper} {i:Nat} {l:List Nat} {E:Env} {k:List Item} (dJ:ops[i]?=some o) (ao:gl P o E w (fun v ah=>(i=Z∨C ah)∧gG P f R n C A Z ops l (pu o.dst v E) k ah))
 (bg:A i=true:=by exact rfl) (hw:want n ops E o.guard=some true:=by exact rfl) (hd:iU n o.dst=true:=by exact rfl):gG P f R n C A Z ops (i::l) E k w:=gG.act dJ bg hw hd ao
end
end Go.aA
namespace Go.wC
open Go Go.aA
section
variable {P:Program} {f:FuncId} {R:Ending→World→Prop} {n:Nat} {C:World→Prop} {A N:Nat→Bool} {Z:Nat} {w ef:World}
theorem iF.gd {ops:Array Oper} {k:List Item} (m:Nat) {l kE:List Nat} {E hX:Env} (h:aA.gd n A ops m l E=some (kE,hX)) (aa:iF P f R n C A N ef Z ops kE hX k w):iF P f R n C A N ef Z ops l E k w:=by
 induction m generalizing l E with
 | zero =>
  simp only [aA.gd,Option.some.injEq,Prod.mk.injEq] at h
  obtain ⟨rfl,rfl⟩:=h
  exact aa
 | succ m bq =>
  cases l with
  | nil=>simp [aA.gd] at h
  | cons i l =>
   unfold aA.gd at h
   split at h
   · rename_i o dJ
     split at h
     · rename_i hd
       split at h
       · rename_i hw
         rw [Bx] at hw
         split at h
         · rename_i bg
           split at h
           · rename_i v bG
             refine iF.q dJ bg (G2 bG) hw hd ?_
             split at h
             · rename_i d me; rw [me]; exact bq h
             · rename_i me; rw [me]; exact bq h
           · cases h
         · cases h
       · rename_i hw
         rw [Bx] at hw
         refine iF.dt dJ hw hd ?_
         split at h
         · rename_i d me; rw [me]; exact bq h
         · rename_i me; rw [me]; exact bq h
       · cases h
     · cases h
   · cases h
theorem iF.n2 {ops:Array Oper} {o:Oper} {i:Nat} {l:List Nat} {E:Env} {k:List Item} {v:Value} (dJ:ops[i]?=some o) (dL:aY P o E (fun ah=>ah=ef) v) (h:iF P f R n C A N ef Z ops l (pu o.dst v E) k w)
 (bg:A i=false:=by exact rfl) (gw:N i=true:=by exact rfl) (hw:want n ops E o.guard=some true:=by exact rfl) (hd:iU n o.dst=true:=by exact rfl):iF P f R n C A N ef Z ops (i::l) E k w:=iF.adJ dJ bg gw dL hw hd h
theorem iF.mS {ops:Array Oper} {o:Oper} {i:Nat} {l:List Nat} {E:Env} {k:List Item} {v:Value} (dJ:ops[i]?=some o) (dL:aY P o E C v) (h:iF P f R n C A N ef Z ops l (pu o.dst v E) k w)
 (bg:A i=false:=by exact rfl) (gw:N i=false:=by exact rfl) (hw:want n ops E o.guard=some true:=by exact rfl) (hd:iU n o.dst=true:=by exact rfl):iF P f R n C A N ef Z ops (i::l) E k w:=iF.adK dJ bg gw dL hw hd h
theorem iF.ac {ops:Array Oper} {o:Oper} {i:Nat} {l:List Nat} {E:Env} {k:List Item} (dJ:ops[i]?=some o) (ao:gl P o E w (fun v ah=>(i=Z∨C ah)∧iF P f R n C A N ef Z ops l (pu o.dst v E) k ah))
 (bg:A i=true:=by exact rfl) (hw:want n ops E o.guard=some true:=by exact rfl) (hd:iU n o.dst=true:=by exact rfl):iF P f R n C A N ef Z ops (i::l) E k w:=iF.act dJ bg hw hd ao
end
end Go.wC
namespace Go.aA
theorem cu {p:Prop} (h:p:=by first|omega|assumption):p:=h
theorem aU {p:Prop} (h:p:=by first|assumption|omega):p:=h
theorem ol {p:Prop} (h:p:=by first|omega|(simp only [List.length_append,List.length_cons,List.length_nil]; omega)|(simp; omega)):p:=h
theorem gA {p:Prop} (h:p:=by unfold maxLen; first|omega|(simp only [List.length_append,List.length_cons,List.length_nil]; omega)|(simp; omega)):p:=h
end Go.aA
namespace Go.Proofs
open Go.aA Go.ab
theorem mixed:Tryz.prog.follows .mixedOrders=true:=by kernel_rfl
theorem aP:dX Tryz.prog 3=some (false,1,8,[.int .i64 0]):=by kernel_rfl
theorem fW:dX Tryz.prog 4=some (false,1,1,[.bool false]):=by kernel_rfl
theorem jW:dX Tryz.prog 5=some (false,1,1,[.int .u8 0]):=by kernel_rfl
theorem dp:dX Tryz.prog 9=some (false,1,16,[aH []]):=by kernel_rfl
theorem hn:dX Tryz.prog 21=some (false,1,4,[.int .i32 0]):=by kernel_rfl
theorem n3:dX Tryz.prog 23=some (false,1,24,[.slice none 0 0]):=by kernel_rfl
theorem tT:dX Tryz.prog 24=some (false,1,24,[.slice none 0 0]):=by kernel_rfl
theorem jc:dX Tryz.prog 26=some (true,12,128,[.slice none 0 0,.slice none 0 0,.int .i64 0,.int .i64 0,.int .i64 0,.int .i64 0,.int .i64 0,.int .i64 0,.int .i64 0,.int .i64 0,.int .i64 0,.int .i64 0]):=by kernel_rfl
theorem nA:dX Tryz.prog 33=some (true,2,24,[.int .i64 0,aH []]):=by kernel_rfl
theorem gY:dX Tryz.prog 35=some (true,11,104,[.int .i64 0,.int .i64 0,.int .i64 0,.int .i64 0,.int .i64 0,aH [],.int .i64 0,.int .i64 0,.bool false,.int .i64 0,aH []]):=by kernel_rfl
theorem sQ:dX Tryz.prog 47=some (false,1,24,[.slice none 0 0]):=by kernel_rfl
theorem wI:dX Tryz.prog 57=some (false,1,24,[.slice none 0 0]):=by kernel_rfl
theorem K2:dX Tryz.prog 93=some (false,1,8,[.pointer none]):=by kernel_rfl
theorem pI:dX Tryz.prog 99=some (false,1,8,[.pointer none]):=by kernel_rfl
theorem kN:dX Tryz.prog 110=some (true,2,24,[.int .i64 0,aH []]):=by kernel_rfl
theorem vm:dX Tryz.prog 120=some (false,1,24,[.slice none 0 0]):=by kernel_rfl
theorem BC:dX Tryz.prog 157=some (false,1,8,[.nilFunc]):=by kernel_rfl
theorem K3:dX Tryz.prog 162=some (false,1,8,[.map none]):=by kernel_rfl
theorem pJ:dX Tryz.prog 172=some (true,2,16,[.int .i64 0,.int .i64 0]):=by kernel_rfl
theorem BD:dX Tryz.prog 173=some (false,1,24,[.slice none 0 0]):=by kernel_rfl
theorem BE:dX Tryz.prog 174=some (false,1,8,[.map none]):=by kernel_rfl
theorem ki:dX Tryz.prog 219=some (false,1,24,[.slice none 0 0]):=by kernel_rfl
theorem mT:dX Tryz.prog 221=some (true,2,32,[.bool false,.slice none 0 0]):=by kernel_rfl
theorem Dx:dX Tryz.prog 225=some (false,1,24,[.slice none 0 0]):=by kernel_rfl
theorem q7:dX Tryz.prog 228=some (true,3,48,[.int .i64 0,.slice none 0 0,aH []]):=by kernel_rfl
theorem dY:dX Tryz.prog 233=some (true,2,16,[.int .i32 0,.int .i64 0]):=by kernel_rfl
theorem iQ:dX Tryz.prog 238=some (true,2,32,[.bool false,.slice none 0 0]):=by kernel_rfl
theorem mU:dX Tryz.prog 262=some (false,1,24,[.slice none 0 0]):=by kernel_rfl
theorem zJ:dX Tryz.prog 268=some (true,2,16,[.int .i64 0,.int .i64 0]):=by kernel_rfl
theorem Ts:dX Tryz.prog 281=some (false,1,8,[.map none]):=by kernel_rfl
theorem Dy:dX Tryz.prog 285=some (false,1,8,[.nilFunc]):=by kernel_rfl
theorem BF:dQ Tryz.prog 26 0=some 0:=by kernel_rfl
theorem tU:dQ Tryz.prog 26 1=some 1:=by kernel_rfl
theorem wJ:dQ Tryz.prog 26 2=some 2:=by kernel_rfl
theorem G8:dQ Tryz.prog 26 3=some 3:=by kernel_rfl
theorem Tt:dQ Tryz.prog 26 4=some 4:=by kernel_rfl
theorem Tu:dQ Tryz.prog 26 5=some 5:=by kernel_rfl
theorem Tv:dQ Tryz.prog 26 6=some 6:=by kernel_rfl
theorem Tw:dQ Tryz.prog 26 7=some 7:=by kernel_rfl
theorem G9:dQ Tryz.prog 26 8=some 8:=by kernel_rfl
theorem Tx:dQ Tryz.prog 26 9=some 9:=by kernel_rfl
theorem Ty:dQ Tryz.prog 26 10=some 10:=by kernel_rfl
theorem Tz:dQ Tryz.prog 26 11=some 11:=by kernel_rfl
theorem G_:dQ Tryz.prog 33 0=some 0:=by kernel_rfl
theorem G':dQ Tryz.prog 33 1=some 1:=by kernel_rfl
theorem BG:dQ Tryz.prog 35 0=some 0:=by kernel_rfl
theorem zK:dQ Tryz.prog 35 1=some 1:=by kernel_rfl
theorem x_:dQ Tryz.prog 35 2=some 2:=by kernel_rfl
theorem Dz:dQ Tryz.prog 35 3=some 3:=by kernel_rfl
theorem BH:dQ Tryz.prog 35 4=some 4:=by kernel_rfl
theorem Ha:dQ Tryz.prog 35 5=some 5:=by kernel_rfl
theorem DA:dQ Tryz.prog 35 6=some 6:=by kernel_rfl
theorem DB:dQ Tryz.prog 35 7=some 7:=by kernel_rfl
theorem TA:dQ Tryz.prog 35 8=some 8:=by kernel_rfl
theorem Hb:dQ Tryz.prog 35 9=some 9:=by kernel_rfl
theorem vn:dQ Tryz.prog 110 0=some 0:=by kernel_rfl
theorem zL:dQ Tryz.prog 110 1=some 1:=by kernel_rfl
theorem TB:dQ Tryz.prog 123 0=some 0:=by kernel_rfl
theorem DC:dQ Tryz.prog 123 1=some 1:=by kernel_rfl
theorem K4:dQ Tryz.prog 164 0=some 0:=by kernel_rfl
theorem Hc:dQ Tryz.prog 164 1=some 1:=by kernel_rfl
theorem BI:dQ Tryz.prog 176 0=some 0:=by kernel_rfl
theorem BJ:dQ Tryz.prog 176 1=some 1:=by kernel_rfl
theorem ad5:dQ Tryz.prog 217 0=some 0:=by kernel_rfl
theorem Hd:dQ Tryz.prog 217 1=some 1:=by kernel_rfl
theorem qm:dQ Tryz.prog 217 2=some 2:=by kernel_rfl
theorem ad6:dQ Tryz.prog 221 0=some 0:=by kernel_rfl
theorem vo:dQ Tryz.prog 221 1=some 1:=by kernel_rfl
theorem DD:dQ Tryz.prog 228 0=some 0:=by kernel_rfl
theorem DE:dQ Tryz.prog 228 1=some 1:=by kernel_rfl
theorem DF:dQ Tryz.prog 228 2=some 2:=by kernel_rfl
theorem pK:dQ Tryz.prog 233 0=some 0:=by kernel_rfl
theorem pL:dQ Tryz.prog 233 1=some 1:=by kernel_rfl
theorem DG:dQ Tryz.prog 238 0=some 0:=by kernel_rfl
theorem sR:dQ Tryz.prog 238 1=some 1:=by kernel_rfl
theorem mV:dQ Tryz.prog 264 0=some 0:=by kernel_rfl
theorem BK:dQ Tryz.prog 268 0=some 0:=by kernel_rfl
theorem K5:dQ Tryz.prog 268 1=some 1:=by kernel_rfl
theorem x':dQ Tryz.prog 283 0=some 0:=by kernel_rfl
theorem TC:dQ Tryz.prog 283 1=some 1:=by kernel_rfl
theorem TD (a b:dk) (w:World):(Op.equalIn 10000 33 (.agg #[.int .i64 a.cd,aH a.word]) (.agg #[.int .i64 b.cd,aH b.word])).run Tryz.prog w=.ok (decide (a=b)) w:=
 AZ (ks:=[(0,.int .i64),(1,.str)]) (by kernel_rfl) (by kernel_rfl) (by kernel_rfl) (by
  obtain ⟨a0,hi⟩:=a
  obtain ⟨lJ,aG⟩:=b
  (by_cases a8:a0=lJ)<;>(first|(have g0:=beq_eq_false_iff_ne.2 a8)|(have g0:=beq_iff_eq.2 a8))<;>(by_cases h1:hi=aG)<;>(first|(have g1:=beq_eq_false_iff_ne.2 h1)|(have g1:=beq_iff_eq.2 h1))<;>simp [k1,lP,aH,toList_mk,a8,h1,g0,g1]) w
theorem ad7 (a b:(Int×Int)) (w:World):(Op.equalIn 10000 172 (.agg #[.int .i64 a.1,.int .i64 a.2]) (.agg #[.int .i64 b.1,.int .i64 b.2])).run Tryz.prog w=.ok (decide (a=b)) w:=
 AZ (ks:=[(0,.int .i64),(1,.int .i64)]) (by kernel_rfl) (by kernel_rfl) (by kernel_rfl) (by
  obtain ⟨a0,hi⟩:=a
  obtain ⟨lJ,aG⟩:=b
  (by_cases a8:a0=lJ)<;>(first|(have g0:=beq_eq_false_iff_ne.2 a8)|(have g0:=beq_iff_eq.2 a8))<;>(by_cases h1:hi=aG)<;>(first|(have g1:=beq_eq_false_iff_ne.2 h1)|(have g1:=beq_iff_eq.2 h1))<;>simp [k1,lP,aH,toList_mk,a8,h1,g0,g1]) w
theorem ad8 (a b:bm) (w:World):(Op.equalIn 10000 233 (.agg #[.int .i32 a.rune,.int .i64 a.to]) (.agg #[.int .i32 b.rune,.int .i64 b.to])).run Tryz.prog w=.ok (decide (a=b)) w:=
 AZ (ks:=[(0,.int .i32),(1,.int .i64)]) (by kernel_rfl) (by kernel_rfl) (by kernel_rfl) (by
  obtain ⟨a0,hi⟩:=a
  obtain ⟨lJ,aG⟩:=b
  (by_cases a8:a0=lJ)<;>(first|(have g0:=beq_eq_false_iff_ne.2 a8)|(have g0:=beq_iff_eq.2 a8))<;>(by_cases h1:hi=aG)<;>(first|(have g1:=beq_eq_false_iff_ne.2 h1)|(have g1:=beq_iff_eq.2 h1))<;>simp [k1,lP,aH,toList_mk,a8,h1,g0,g1]) w
theorem K6:bX Tryz.prog 23=true:=by kernel_rfl
theorem K7:bX Tryz.prog 25=true:=by kernel_rfl
theorem ad9:bX Tryz.prog 39=true:=by kernel_rfl
theorem ad_:bX Tryz.prog 44=true:=by kernel_rfl
theorem TE:bX Tryz.prog 54=true:=by kernel_rfl
theorem ad':bX Tryz.prog 55=true:=by kernel_rfl
theorem sS:bX Tryz.prog 56=true:=by kernel_rfl
theorem K8:bX Tryz.prog 57=true:=by kernel_rfl
theorem aea:bX Tryz.prog 58=true:=by kernel_rfl
theorem aeb:bX Tryz.prog 59=true:=by kernel_rfl
theorem BL:bX Tryz.prog 60=true:=by kernel_rfl
theorem DH:bX Tryz.prog 61=true:=by kernel_rfl
theorem aec:bX Tryz.prog 79=true:=by kernel_rfl
theorem TF:bX Tryz.prog 82=true:=by kernel_rfl
theorem TG:bX Tryz.prog 85=true:=by kernel_rfl
theorem aed:bX Tryz.prog 90=true:=by kernel_rfl
theorem aee:bX Tryz.prog 91=true:=by kernel_rfl
theorem TH:bX Tryz.prog 96=true:=by kernel_rfl
theorem aef:bX Tryz.prog 99=true:=by kernel_rfl
theorem aeg:bX Tryz.prog 100=true:=by kernel_rfl
theorem K9:bX Tryz.prog 102=true:=by kernel_rfl
theorem K_:bX Tryz.prog 103=true:=by kernel_rfl
theorem He:bX Tryz.prog 104=true:=by kernel_rfl
theorem TI:bX Tryz.prog 105=true:=by kernel_rfl
theorem aeh:bX Tryz.prog 106=true:=by kernel_rfl
theorem K':bX Tryz.prog 107=true:=by kernel_rfl
theorem aei:bX Tryz.prog 124=true:=by kernel_rfl
theorem aej:bX Tryz.prog 125=true:=by kernel_rfl
theorem La:bX Tryz.prog 126=true:=by kernel_rfl
theorem aek:bX Tryz.prog 127=true:=by kernel_rfl
theorem TJ:bX Tryz.prog 133=true:=by kernel_rfl
theorem TK:bX Tryz.prog 134=true:=by kernel_rfl
theorem ael:bX Tryz.prog 135=true:=by kernel_rfl
theorem TL:bX Tryz.prog 136=true:=by kernel_rfl
theorem TM:bX Tryz.prog 137=true:=by kernel_rfl
theorem vp:bX Tryz.prog 138=true:=by kernel_rfl
theorem aem:bX Tryz.prog 139=true:=by kernel_rfl
theorem aen:bX Tryz.prog 140=true:=by kernel_rfl
theorem aeo:bX Tryz.prog 142=true:=by kernel_rfl
theorem aep:bX Tryz.prog 143=true:=by kernel_rfl
theorem TN:bX Tryz.prog 144=true:=by kernel_rfl
theorem BM:bX Tryz.prog 145=true:=by kernel_rfl
theorem Hf:bX Tryz.prog 146=true:=by kernel_rfl
theorem Hg:bX Tryz.prog 147=true:=by kernel_rfl
theorem aeq:bX Tryz.prog 148=true:=by kernel_rfl
theorem aer:bX Tryz.prog 149=true:=by kernel_rfl
theorem Lb:bX Tryz.prog 150=true:=by kernel_rfl
theorem aes:bX Tryz.prog 166=true:=by kernel_rfl
theorem TO:bX Tryz.prog 170=true:=by kernel_rfl
theorem TP:bX Tryz.prog 171=true:=by kernel_rfl
theorem aet:bX Tryz.prog 172=true:=by kernel_rfl
theorem aeu:bX Tryz.prog 173=true:=by kernel_rfl
theorem aev:bX Tryz.prog 174=true:=by kernel_rfl
theorem aew:bX Tryz.prog 175=true:=by kernel_rfl
theorem aex:bX Tryz.prog 176=true:=by kernel_rfl
theorem Lc:bX Tryz.prog 177=true:=by kernel_rfl
theorem TQ:bX Tryz.prog 178=true:=by kernel_rfl
theorem aey:bX Tryz.prog 179=true:=by kernel_rfl
theorem aez:bX Tryz.prog 180=true:=by kernel_rfl
theorem aeA:bX Tryz.prog 181=true:=by kernel_rfl
theorem aeB:bX Tryz.prog 182=true:=by kernel_rfl
theorem Ld:bX Tryz.prog 183=true:=by kernel_rfl
theorem DI:bX Tryz.prog 194=true:=by kernel_rfl
theorem vq:bX Tryz.prog 195=true:=by kernel_rfl
theorem aeC:bX Tryz.prog 196=true:=by kernel_rfl
theorem Hh:bX Tryz.prog 197=true:=by kernel_rfl
theorem Le:bX Tryz.prog 198=true:=by kernel_rfl
theorem aeD:bX Tryz.prog 208=true:=by kernel_rfl
theorem TR:bX Tryz.prog 209=true:=by kernel_rfl
theorem TS:bX Tryz.prog 210=true:=by kernel_rfl
theorem aeE:bX Tryz.prog 219=true:=by kernel_rfl
end Go.Proofs
namespace Go.Proofs
open Go.aA Go.ab
theorem aeF {w0:World}  (c:Nat) (b:UInt8) (bE:c < 4294967296) :
 Calls Tryz.prog 196 #[.int .u32 (((c:Nat):Int)),.int .u8 ((b.toNat:Int))] w0 (aj fun aD ai=>aD=.int .u32 (((tI c b.toNat:Nat):Int))∧Ext w0 ai):=by
 have ba:Ext w0 w0:=Mod.refl _ _;have PF:=b.toNat_lt;refine bS Tryz.func196 rfl Tryz.ntmps196 rfl (.go 8 rfl (.z (.np (by kernel_rfl) Tryz.underlying213 rfl (IntWalk.u32_in _ (by omega))) (have aeG:=vc (a:=c) (b:=b.toNat) (by omega) (by omega);.z (.JK (a:=c) (b:=b.toNat) rfl rfl (by omega) (by omega)) (.ae 8 rfl (dU (I:=fun m E W=>∃ (c1:Nat) (k:Nat),E=[(0,.int .u32 (((c1:Nat):Int))),(10,.int .i64 (((k:Nat):Int)))]∧m=8-k∧Ext w0 W∧w0.heap.size≤W.heap.size∧(c1=py k (c ^^^ b.toNat))∧(c1 < 4294967296)∧(k≤8)) ?_ ?_)))))
 · refine ⟨_,_,⟨(c ^^^ b.toNat:Nat),(0:Nat),rfl,rfl,ba,Nat.le_refl _,(by rfl),(by omega),(by omega)⟩,⟨rfl,rfl,trivial⟩⟩
 · rintro _ _ ai ⟨c1,k,rfl,rfl,bf,dW,an,eG,wK⟩ bV;refine .go 2 rfl (.aX (.lt rfl rfl) (fun aJ=>?_) fun aJ=>?_)
   · refine .go 9 rfl (.z (.Y2 (a:=c1) rfl rfl (by omega)) (.go 5 rfl (.z (.X7 (((c1 / 2:Nat):Int)) rfl rfl (by omega)) (.go 5 rfl (.h8 (.eq rfl rfl) (fun aK=>?_) fun aK=>?_)))))
     · exact .ae 1 rfl (have akv:=vc (a:=c1 / 2) (b:=3988292384) (by omega) (by omega);.go 3 rfl (.z (.JK (a:=c1 / 2) (b:=3988292384) rfl rfl (by omega) (by omega)) (.go 4 rfl (.z (.bZ (((k+1:Nat):Int)) rfl rfl (by omega)) (.ae 2 rfl ((bV _ _ _ ⟨((c1 / 2) ^^^ 3988292384:Nat),(k+1:Nat),rfl,rfl,bf,(by omega),(by first|exact Qt an (by omega)|exact Qu an (by omega)|(exfalso; omega)),(by first|omega|(exfalso; omega)),(by first|omega|(exfalso; omega))⟩ (by omega)).sub ⟨rfl,rfl,trivial⟩))))))
     exact .go 5 rfl (.z (.bZ (((k+1:Nat):Int)) rfl rfl (by omega)) (.ae 2 rfl ((bV _ _ _ ⟨(c1 / 2:Nat),(k+1:Nat),rfl,rfl,bf,(by omega),(by first|exact Qt an (by omega)|exact Qu an (by omega)|(exfalso; omega)),(by first|omega|(exfalso; omega)),(by first|omega|(exfalso; omega))⟩ (by omega)).sub ⟨rfl,rfl,trivial⟩)))
   exact .ae 9 rfl (aL Tryz.func196 rfl rfl (aj.mk ⟨(congrArg (Value.int .u32) (by first|(rw [an,show k=8 from by omega]; rfl)|(exfalso; omega))),bf⟩))
theorem aeH {w0:World}  (c:Nat) {dy:Value} {b:List UInt8} (bE:c < 4294967296) (fp:ak dR w0 (aR 0 w0.heap.size) dy b) (jT:b.length≤4000000) :
 Calls Tryz.prog 173 #[.int .u32 (((c:Nat):Int)),dy] w0 (aj fun aD ai=>aD=.int .u32 (((zr c b:Nat):Int))∧Ext w0 ai):=by
 have ba:Ext w0 w0:=Mod.refl _ _;have fg:=fp.le;refine bS Tryz.func173 rfl Tryz.ntmps173 rfl (.go 7 rfl (.z (.FW (a:=c) rfl (by omega)) (.go 6 rfl (.z (.ca Tryz.underlying120 (fp) rfl) (.ae 3 rfl (dU (I:=fun m E W=>∃ (c1:Nat) (k:Nat),E=[(0,.int .u32 (((c1:Nat):Int))),(9,dy),(10,.int .i64 (((b.length:Nat):Int))),(11,.int .i64 (((k:Nat):Int)))]∧m=b.length-k∧Ext w0 W∧w0.heap.size≤W.heap.size∧ak dR W (aR 0 w0.heap.size) dy b∧(c1=qc (4294967295-c) (b.take k))∧(c1 < 4294967296)∧(k≤b.length)) ?_ ?_))))))
 · refine ⟨_,_,⟨(4294967295-c:Nat),(0:Nat),rfl,rfl,ba,Nat.le_refl _,fp,(by rfl),(by omega),(by omega)⟩,⟨rfl,rfl,rfl,rfl,trivial⟩⟩
 · rintro _ _ ai ⟨c1,k,rfl,rfl,bf,dW,f1,an,eG,n4⟩ bV;refine .go 2 rfl (.aX (.lt rfl rfl) (fun aJ=>?_) fun aJ=>?_)
   · refine .ae 2 rfl ?_;obtain ⟨aw,aN,fE,a7,bK,b6,iR,cV⟩:=ak.ft (P:=Tryz.prog) f1 Tryz.underlying120 jW nP (k:=.i64) (n:=((k:Nat):Int)) (k) (by omega) aU;refine .go 6 rfl (.z (.indexAddr rfl rfl bK) (.z (.dT jW cV) (have TT:=aw.toNat_lt;.go 5 rfl (.ac (.aE aeC rfl (aeF (w0:=ai)  (c1) (aw) cu) ?_)))));rintro _ aZ ⟨rfl,au⟩;have f2:=f1.ext au;have bk:=bf.ext au;have e7:=au.size;have:=Ze c1 aw (by omega);exact .go 4 rfl (.z (.bZ (((k+1:Nat):Int)) rfl rfl (by omega)) (.ae 2 rfl ((bV _ _ _ ⟨(tI c1 aw.toNat:Nat),(k+1:Nat),rfl,rfl,bk,(by omega),f2,(by first|(rw [Qs a7,←an])|(exfalso; omega)),(by first|exact zs eG aw.toNat_lt|(exfalso; omega)),(by first|omega|(exfalso; omega))⟩ (by omega)).sub ⟨rfl,rfl,rfl,rfl,trivial⟩)))
   exact .go 7 rfl (.z (.FW (a:=c1) rfl (by omega)) (.ae 2 rfl (aL Tryz.func173 rfl rfl (aj.mk ⟨(congrArg (Value.int .u32) (by first|(rw [an,List.take_of_length_le (by omega)]; rfl)|(exfalso; omega))),bf⟩))))
theorem TU {w0:World}  {dy:Value} {b:List UInt8} (fp:ak dR w0 (aR 0 w0.heap.size) dy b) (jT:b.length≤4000000) :
 Calls Tryz.prog 137 #[dy] w0 (aj fun aD ai=>aD=.int .u32 (((jj b:Nat):Int))∧Ext w0 ai):=by
 have ba:Ext w0 w0:=Mod.refl _ _;have fg:=fp.le;refine bS Tryz.func137 rfl Tryz.ntmps137 rfl (.go 7 rfl (.ac (.aE aeu rfl (aeH (w0:=w0) (b:=b) (0) cu ((fp).b0 (Nat.zero_le _) (by omega)) (by first|assumption|omega|(simp only [List.length_append,eM,List.length_cons,List.length_nil]; omega))) ?_)));rintro _ ai ⟨rfl,au⟩;have bf:=ba.ext au;have dW:=au.size;have:=zt 0 b;exact .ae 2 rfl (aL Tryz.func137 rfl rfl (aj.mk ⟨(congrArg (Value.int .u32) (by rfl)),bf⟩))
theorem DJ {w0:World}  {jd:Value} {s:List UInt8} (jX:ak dR w0 (aR 0 w0.heap.size) jd s) (Hi:s.length≤4000000) :
 Calls Tryz.prog 61 #[jd] w0 (aj fun aD ai=>(∃ cZ,Acc dR 5 1 ai cZ aD (s)∧(cZ=0∨w0.heap.size < cZ))∧Ext w0 ai):=by
 have ba:Ext w0 w0:=Mod.refl _ _;have fg:=jX.le;refine bS Tryz.func61 rfl Tryz.ntmps61 rfl ?_;obtain ⟨br,bs,ej,c9⟩:=ak.isNil (jX);refine .go 8 rfl ?_;subst ej;refine .ev (.JB Tryz.underlying120 rfl rfl) fun aG aJ=>.ae 1 rfl ?_
 cases aG
 case true =>
  replace aJ:=aJ.symm;replace c9:=c9 aJ;exact .ae 5 rfl (aL Tryz.func61 rfl rfl (aj.mk ⟨⟨0,Acc.cast Acc.nil (by first|(symm; assumption)|simp|(exfalso; omega)),.inl rfl⟩,ba⟩))
 replace aJ:=aJ.symm;exact .go 4 rfl (.ac (.buildSlice [] Tryz.underlying120 jW rfl rfl rfl (by decide) fun ai aN au aK eY a1=>have f1:=jX.ext au;have bf:=ba.ext au;have dW:=au.size;have b6:=Acc.eP (enc:=dR) a1 ([]:List UInt8) 0 rfl nP rfl (by unfold maxLen; omega);have dG:=b6.lt;.go 1 rfl (.ac (.append b6 Tryz.underlying120 jW rfl nP Cy rfl rfl (f1) ol gA fun v1 g1 aZ b7 ax cf gh=>have e1:=b6.lt;have bk:=Ext.hq bf ax (by omega);have e7:=ax.size;.ae 2 rfl (aL Tryz.func61 rfl rfl (aj.mk ⟨⟨_,Acc.cast b7 (by first|(symm; assumption)|simp|(exfalso; omega)),by omega⟩,bk⟩))))))
theorem vr {w0:World}  {dy:Value} {b:List UInt8} (n:Int) (size:Nat) (fp:ak dR w0 (aR 0 w0.heap.size) dy b) (jT:b.length≤4000000) (dr:size≤8) :
 Calls Tryz.prog 195 #[dy,.int .i64 n,.int .i64 (((size:Nat):Int))] w0 (aj fun aD ai=>(∃ cZ,Acc dR 5 1 ai cZ aD (b++eJ n size)∧(cZ=0∨w0.heap.size < cZ))∧Ext w0 ai):=by
 have ba:Ext w0 w0:=Mod.refl _ _;have fg:=fp.le;refine bS Tryz.func195 rfl Tryz.ntmps195 rfl (.go 7 rfl (.ac (.aE DH rfl (DJ (w0:=w0) (s:=b)  ((fp).b0 (Nat.zero_le _) (by omega)) aU) ?_)));rintro v1 ai ⟨⟨h2,h1,cf⟩,au⟩;have bf:=ba.ext au;have dW:=au.size;have jl:=h1.le;have q8:=h1.lt;refine .go 5 rfl (.z (.max rfl rfl) (.z (.min rfl rfl) ?_));rw [show (min (max (size:Int) 0) 8)=((size:Nat):Int) from by omega];refine .ae 9 rfl (dU (I:=fun m E W=>∃ (qn:Value) (mf:Nat) (out:List UInt8) (i:Nat),E=[(1,.int .i64 n),(2,.int .i64 (((size:Nat):Int))),(7,qn),(14,.int .i64 (((size:Nat):Int))),(15,.int .i64 (((i:Nat):Int)))]∧m=size-i∧Ext w0 W∧ai.heap.size≤W.heap.size∧Acc dR 5 1 W mf qn out∧(mf=0∨w0.heap.size < mf)∧(out=b++(eJ n size).take i)∧(out.length=b.length+i)∧(i≤size)) ?_ ?_)
 · refine ⟨_,_,⟨(v1:Value),(h2:Nat),((b):List UInt8),(0:Nat),rfl,rfl,bf,Nat.le_refl _,h1,(by omega),(by simp),(by simp),(by omega)⟩,⟨rfl,rfl,rfl,rfl,rfl,trivial⟩⟩
 · rintro _ _ aZ ⟨qn,mf,out,i,rfl,rfl,bk,e7,b7,eA,dJ,q9,pn⟩ bV;refine .go 2 rfl (.aX (.lt rfl rfl) (fun aJ=>?_) fun aJ=>?_)
   · refine .go 14 rfl (.z (.rK (by kernel_rfl) Tryz.underlying260 rfl) (.go 1 rfl (.z (.il ((((size:Nat):Int)-1)) rfl rfl (by omega)) (.go 1 rfl (.z (.il (((((size:Nat):Int)-1)-(((i:Nat):Int)))) rfl rfl (by omega)) (.z (.Ol (((8*(((size-1)-i)):Nat):Int)) rfl rfl (by omega)) (.z (.np (by kernel_rfl) Tryz.underlying96 rfl (IntWalk.u64_in _ (by omega))) (.z (.JL (8*(((size-1)-i))) rfl rfl (by omega) (by simp only [IntKind.bits]; omega)) (.z (.rW (by kernel_rfl) Tryz.underlying5 rfl) (.ac (.buildSlice [(.int .u8 (((fK (((IntKind.u64.wrap n) / 2 ^ (8*(((size-1)-i)))))).toNat:Int)):Value)] Tryz.underlying120 jW rfl rfl rfl (by decide) fun bz aN ax aK c9 a1=>have b6:=b7.lt;have f2:=b7.ext ax;have bD:=bk.ext ax;have hx:=ax.size;have dG:=ak.eP (enc:=dR) a1 ([(fK (((IntKind.u64.wrap n) / 2 ^ (8*(((size-1)-i))))))]:List UInt8) 1 rfl rfl (by unfold maxLen; omega);have e1:=f2.lt;.ac (.append f2 Tryz.underlying120 jW rfl nP Cy rfl rfl (dG) ol gA fun v2 g1 cj dH aM iG eY=>?_))))))))))));have f':=f2.lt;have ek:=Ext.hq bD aM (by omega);have je:=aM.size;exact .go 4 rfl (.z (.bZ (((i+1:Nat):Int)) rfl rfl (by omega)) (.ae 2 rfl ((bV _ _ _ ⟨(v2:Value),(g1:Nat),((out++[(fK (((IntKind.u64.wrap n) / 2 ^ (8*(((size-1)-i))))))]):List UInt8),(i+1:Nat),rfl,rfl,ek,(by omega),dH,(by omega),(by first|exact Qw dJ (by omega) rfl|(exfalso; omega)),(by first|(simp only [List.length_append,List.length_cons,List.length_nil]; omega)|(exfalso; omega)),(by first|omega|(exfalso; omega))⟩ (by omega)).sub ⟨rfl,rfl,rfl,rfl,rfl,trivial⟩)))
   exact .ae 9 rfl (aL Tryz.func195 rfl rfl (aj.mk ⟨⟨_,Acc.cast b7 (by first|(rw [dJ,List.take_of_length_le (by rw [eM]; omega)])|(exfalso; omega)),by omega⟩,bk⟩))
theorem sT {p:Prop} (h:p:=by first|exact (F5 (by omega)).1|exact (F5 (by omega)).2|(rw [aI,←(F6 (by omega)).1,show i=size from by omega]; simp)|exact (F6 (by omega)).2|(exfalso; omega)):p:=h
theorem sU {p:Prop} (h:p:=by omega):p:=h
theorem TV {w0:World}  {dy:Value} {b:List UInt8} (at_:Int) (size:Nat) (fp:ak dR w0 (aR 0 w0.heap.size) dy b) (aeI:bp at_) (jT:b.length≤4000000) (dr:1≤size∧size≤4) :
 Calls Tryz.prog 136 #[dy,.int .i64 at_,.int .i64 (((size:Nat):Int))] w0 (aj fun aD ai=>∃ ec fF,aD=.tuple #[ec,fF]∧ec=.int .i64 (iP b at_ size)∧(∃ b4:Bool,b4=(ln b at_ size)∧fF=.bool b4)∧Ext w0 ai):=by
 have ba:Ext w0 w0:=Mod.refl _ _;have fg:=fp.le;refine bS Tryz.func136 rfl Tryz.ntmps136 rfl (.go 9 rfl (.aX (.lt rfl rfl) (fun aJ=>?_) fun aJ=>?_))
 · exact .ae 29 rfl (bM Tryz.func136 rfl rfl rfl (aj.mk ⟨_,_,rfl,(congrArg (Value.int .i64) sT),⟨_,sT,rfl⟩,ba⟩))
 refine .go 2 rfl (.aX (.gt rfl rfl) (fun aK=>?_) fun aK=>?_)
 · exact .ae 26 rfl (bM Tryz.func136 rfl rfl rfl (aj.mk ⟨_,_,rfl,(congrArg (Value.int .i64) sT),⟨_,sT,rfl⟩,ba⟩))
 refine .go 3 rfl (.aX (.lt rfl rfl) (fun aV=>?_) fun aV=>?_)
 · exact .ae 22 rfl (bM Tryz.func136 rfl rfl rfl (aj.mk ⟨_,_,rfl,(congrArg (Value.int .i64) sT),⟨_,sT,rfl⟩,ba⟩))
 refine .go 4 rfl (.z (.ca Tryz.underlying120 (fp) rfl) (.aX (.gt rfl rfl) (fun bc=>?_) fun bc=>?_))
 · exact .ae 16 rfl (bM Tryz.func136 rfl rfl rfl (aj.mk ⟨_,_,rfl,(congrArg (Value.int .i64) sT),⟨_,sT,rfl⟩,ba⟩))
 refine .go 4 rfl (.z (.ca Tryz.underlying120 (fp) rfl) (.go 1 rfl (.z (.il ((((b.length:Nat):Int)-at_)) rfl rfl sU) (.aX (.gt rfl rfl) (fun cy=>?_) fun cy=>?_))))
 · exact .ae 8 rfl (bM Tryz.func136 rfl rfl rfl (aj.mk ⟨_,_,rfl,(congrArg (Value.int .i64) sT),⟨_,sT,rfl⟩,ba⟩))
 refine .ae 15 rfl (dU (I:=fun m E W=>∃ (n:Nat) (i:Nat),E=[(0,dy),(1,.int .i64 at_),(8,.int .u64 (((n:Nat):Int))),(34,.int .i64 (((size:Nat):Int))),(35,.int .i64 (((i:Nat):Int)))]∧m=size-i∧Ext w0 W∧w0.heap.size≤W.heap.size∧ak dR W (aR 0 w0.heap.size) dy b∧(n=jI ((b.drop at_.toNat).take i))∧(i≤size)) ?_ ?_)
 · refine ⟨_,_,⟨(0:Nat),(0:Nat),rfl,rfl,ba,Nat.le_refl _,fp,(by rfl),sU⟩,⟨rfl,rfl,rfl,rfl,rfl,trivial⟩⟩
 · rintro _ _ ai ⟨n,i,rfl,rfl,bf,dW,f1,aI,pn⟩ bV;have l6:=JU (i:=i) (l:=b.drop at_.toNat) sU;rw [←aI] at l6;refine .go 2 rfl (.aX (.lt rfl rfl) (fun ck=>?_) fun ck=>?_)
   · refine .go 13 rfl (.z (.P8 (a:=n) rfl rfl (by omega)) (.go 3 rfl (.z (.bZ ((at_+(((i:Nat):Int)))) rfl rfl sU) ?_)));obtain ⟨aw,hy,fE,a7,bK,b6,iR,cV⟩:=ak.ft (P:=Tryz.prog) f1 Tryz.underlying120 jW nP (k:=.i64) (n:=(at_+(((i:Nat):Int)))) (((at_+(((i:Nat):Int)))).toNat) sU aU;exact .z (.indexAddr rfl rfl bK) (.z (.dT jW cV) (have TT:=aw.toNat_lt;.z (.np (by kernel_rfl) Tryz.underlying260 rfl (IntWalk.u64_in _ sU)) (.z (.P7 (a:=n) (b:=aw.toNat) rfl rfl sU sU) (.go 4 rfl (.z (.bZ (((i+1:Nat):Int)) rfl rfl sU) (.ae 2 rfl ((bV _ _ _ ⟨(n*256+aw.toNat:Nat),(i+1:Nat),rfl,rfl,bf,sU,f1,(by first|refine Qy aI a7 ?_; omega|(exfalso; omega)),(by first|omega|(exfalso; omega))⟩ sU).sub ⟨rfl,rfl,rfl,rfl,rfl,trivial⟩)))))))
   exact .go 7 rfl (.z (.np (by kernel_rfl) Tryz.underlying3 rfl (IntWalk.i64_in _ sU)) (.ae 3 rfl (bM Tryz.func136 rfl rfl rfl (aj.mk ⟨_,_,rfl,(congrArg (Value.int .i64) sT),⟨_,sT,rfl⟩,bf⟩))))
end Go.Proofs
