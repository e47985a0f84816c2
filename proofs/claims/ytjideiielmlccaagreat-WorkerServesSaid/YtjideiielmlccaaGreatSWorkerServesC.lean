/-
  What the law WorkerServes needs, part 3 of 7: theory, and walks through the code. Names are said short.
-/
import Derived.Test.YtjideiielmlccaaGreatSWorkerServesB
set_option linter.unusedVariables false
set_option linter.unusedSimpArgs false
set_option maxRecDepth 20000
set_option maxHeartbeats 8000000
namespace Go.ak
open Go.aF
theorem MW{a b c:Nat}(h:a ^^^ c=b ^^^ c):a=b:=by
 have:=congrArg (· ^^^ c) h;simpa[Nat.xor_assoc] using this
theorem Vm{a b c:Nat}(h:c ^^^ a=c ^^^ b):a=b:=by
 rw[Nat.xor_comm c a,Nat.xor_comm c b] at h;exact MW h
theorem Vn{a:Nat}(h:a<2147483648):2147483648<=a ^^^ 3988292384:=by
 have h1:(a ^^^ 3988292384).testBit 31=true:=by
  rw[Nat.testBit_xor,Nat.testBit_lt_two_pow (show a<2 ^ 31 from h)];rfl
 refine Nat.le_of_not_lt λk=>?_
 rw[Nat.testBit_lt_two_pow (show a ^^^ 3988292384<2 ^ 31 from k)] at h1;cases h1
theorem afJ{a b:Nat}(ax:a<4294967296)(ab:b<4294967296)(h:ui a=ui b):a=b:=by
 unfold ui at h;have ar7:=Vn (a:=a / 2) aa;have tb:=Vn (a:=b / 2) aa;split at h<;>split at h
 . have:=MW h;omega
 . omega
 . omega
 . omega
theorem MX{a b:Nat}(ax:a<4294967296)(ab:b<4294967296):∀k,q8 k a=q8 k b->a=b
 | 0,h=>h
 | k+1,h=>MX ax ab k (afJ (H5 ax k) (H5 ab k) h)
theorem afK{c d x:Nat}(al:c<4294967296)(hd:d<4294967296)(ah:x<256)(h:vc c x=vc d x):c=d:=
 MW (MX (xE al aa) (xE hd aa) 8 h)
theorem afL{c x y:Nat}(al:c<4294967296)(ah:x<256)(aD:y<256)(h:vc c x=vc c y):x=y:=
 Vm (MX (xE al aa) (xE al aa) 8 h)
theorem Vo:∀(l:List UInt8) {c d:Nat},c<4294967296->d<4294967296->rV c l=rV d l->c=d
 | [],c,d,_,_,h=>h
 | x::l,c,d,al,hd,h=>afK al hd x.toNat_lt (Vo l (AV al x.toNat_lt) (AV hd x.toNat_lt) h)
theorem Vp(c:Nat)(a b:List UInt8):rV c (a++b)=rV (rV c a) b:=by unfold rV;rw[List.foldl_append]
theorem afM{l:List UInt8}{k:Nat}{x y:UInt8}(ah:l[k]?=some x)(aD:y≠x):kE (l.set k y)≠kE l:=by
 intro h;have hk:=(List.getElem?_eq_some_iff.1 ah).1
 have fV:l=l.take k++x::l.drop (k+1):=by
  have:=(List.getElem?_eq_some_iff.1 ah).2
  rw[<-this];simp
 have je:l.set k y=l.take k++y::l.drop (k+1):=(by rw[List.set_eq_take_append_cons_drop,if_pos hk]);unfold kE AU at h;have h9:=H6 (l.set k y) (c:=4294967295-0) aa;have a2:=H6 l (c:=4294967295-0) aa;have ag:rV (4294967295-0) (l.set k y)=rV (4294967295-0) l:=(by omega);rw[je] at ag
 conv at ag=>rhs;rw[fV]
 rw[Vp,Vp] at ag;have aK:=H6 (l.take k) (c:=4294967295-0) aa;have aB:=Vo (l.drop (k+1)) (AV aK y.toNat_lt) (AV aK x.toNat_lt) ag;have bE:=afL aK y.toNat_lt x.toNat_lt aB;exact aD (UInt8.toNat.inj bE)
theorem MY{b l:List UInt8}(h:l.length=4):j' (b++l) (((b++l).length:Int)-4) 4=(kY l:Int):=by
 have bk:(b++l).length=b.length+4:=(by rw[List.length_append,h]);have bX:mN (b++l) (((b++l).length:Int)-4) 4=true:=(by unfold mN;exact decide_eq_true ⟨by omega,by omega,by omega,by omega,by omega⟩);unfold j';rw[if_pos bX,show(((b++l).length:Int)-4).toNat=b.length from by omega,List.drop_left,show(4:Int).toNat=4 from rfl,List.take_of_length_le aa]
theorem Vq{b l:List UInt8}(h:l.length=4):(b++l).take ((b++l).length-4)=b:=by
 rw[List.length_append,h,Nat.add_sub_cancel];simp
theorem afN{N:List cx}{k:Nat}{x y:UInt8}(ah:(kZ N)[k]?=some x)(aD:y≠x):iv ((kZ N).set k y)=([],9):=by
 have hp:=ie (kE (hJ N)) 4;have aT:=CF 0 (hJ N);have afO:=U7 (x:=(kE (hJ N):Int)) (.inr (.inr rfl):xK 4) aa (by change (AU 0 (hJ N):Int)<_;omega);have hk:=(List.getElem?_eq_some_iff.1 ah).1;unfold kZ xF at ah hk ⊢;rw[List.length_append,hp] at hk;by_cases h:k<(hJ N).length
 . rw[List.set_append_left _ _ h];rw[List.getElem?_append_left h] at ah;refine CN (by rw[List.length_append,hp];omega) ?_;rw[MY hp,Vq hp,afO];intro e;exact afM ah aD aa
 . rw[List.set_append_right _ _ aa];rw[List.getElem?_append_right aa] at ah;have wA:((fl (kE (hJ N):Int) 4).set (k-(hJ N).length) y).length=4:=(by rw[List.length_set,hp]);refine CN (by rw[List.length_append,wA];omega) ?_;rw[MY wA,Vq wA];intro e;have je:=MQ (.inr (.inr rfl):xK 4) wA;rw[e] at je
   have tY:(fl (kE (hJ N):Int) 4)[k-(hJ N).length]?=some y:=by
    rw[je,List.getElem?_set_self (by rw[hp];omega)]
   rw[ah] at tY;exact aD (Option.some.inj tY).symm
theorem ar8{b r:List UInt8}{n:Nat}{a f a2:Int}{q:Bool}(h:ea b n (a,q)=(f,(a2,false))):ea (b++r) n (a,q)=(f,(a2,false)):=by
 cases bX:mN b a n with
 | false=>rw[y3 bX] at h;simp at h
 | true =>
  rw[vg bX] at h;have hk:=bX;unfold mN at hk;have hk:=of_decide_eq_true hk;have pB:mN (b++r) a n=true:=(by unfold mN;rw[List.length_append];exact decide_eq_true ⟨by omega,by omega,by omega,by omega,by omega⟩);rw[vg pB,<-h]
  have cN:j' (b++r) a n=j' b a n:=by
   unfold j'
   rw[if_pos bX,if_pos pB,List.drop_append_of_le_length aa,List.take_append_of_le_length (by rw[List.length_drop];omega)]
  rw[cN]
theorem afP{b:List UInt8}{s:Int×Bool}(h:s.2=true):∀n,(kt b n s).2=s
 | 0=>rfl
 | n+1=>by unfold kt;rw[if_pos h]
theorem Vr{b:List UInt8}:∀(n:Nat) {s:Int×Bool},(kt b n s).2.2=false->s.2=false:=λn s h=>by
 cases aT:s.2 with
 | false=>rfl
 | true=>rw[afP aT,aT] at h;cases h
theorem afQ{b:List UInt8}{s:Int×Bool}(h:s.2=true):∀n,(lh b n s).2=s
 | 0=>rfl
 | n+1=>by unfold lh;rw[if_pos h]
theorem Vs{b:List UInt8}:∀(n:Nat) {s:Int×Bool},(lh b n s).2.2=false->s.2=false:=λn s h=>by
 cases aT:s.2 with
 | false=>rfl
 | true=>rw[afQ aT,aT] at h;cases h
theorem afR{b:List UInt8}(h:(iv b).2=0):∃c a0 N,8<=b.length/\j' b ((b.length:Int)-4) 4=(kE (b.take (b.length-4)):Int)/\b.take 4=[73,78,75,49]/\ea (b.take (b.length-4)) 2 (4,false)=(c,(a0,false))/\lh (b.take (b.length-4)) c.toNat (a0,false)=(N,((b.length:Int)-4,false))/\lB N≠[]/\(iv b).1=lB N:=by
 by_cases h1:b.length<4
 . rw[Iw h1] at h;cases h
 by_cases ag:¬ j' b ((b.length:Int)-4) 4=(kE (b.take (b.length-4)):Int)
 . rw[CN h1 ag] at h;cases h
 have ag:=Classical.not_not.1 ag;by_cases aB:b.length-4<4\/¬ b.take 4=[73,78,75,49]
 . rw[MO h1 ag aB] at h;cases h
 obtain⟨⟨c,a0,q0⟩,bE⟩:∃x,ea (b.take (b.length-4)) 2 (4,false)=x:=⟨_,rfl⟩;obtain⟨⟨N,a,q⟩,c3⟩:∃x,lh (b.take (b.length-4)) c.toNat (a0,q0)=x:=⟨_,rfl⟩;by_cases eX:q=true\/¬ a=(b.length:Int)-4
 . rw[Ix h1 ag aB bE.symm c3 eX] at h;cases h
 by_cases kC:lB N=[]
 . rw[U3 h1 ag aB bE.symm c3 eX kC] at h;cases h
 have dB:q=false:=by cases q with
  | false=>rfl
  | true=>exact absurd (.inl rfl) eX
 have ax:a=(b.length:Int)-4:=Classical.byContradiction λk=>eX (.inr k)
 subst dB;subst ax;have MZ:q0=false:=Vs _ (by rw[c3]);subst MZ;exact⟨c,a0,N,by omega,ag,Classical.byContradiction λk=>aB (.inr k),bE,c3,kC,by rw[MP h1 ag aB bE.symm c3 eX kC]⟩
theorem afS{b:List UInt8}(h:(iv b).2≠0):(iv b).1=[]:=by
 unfold iv at h ⊢;split
 . rfl
 split
 . rfl
 split
 . rfl
 split
 . rfl
 split
 . rfl
 . rename_i h1 ag aB bE c3;rw[if_neg h1,if_neg ag,if_neg aB,if_neg bE,if_neg c3] at h;exact absurd rfl h
def CR(x:Int):UInt8:=gG (1+(IntKind.u64.wrap x) % 255)
def y8(b:List UInt8)(at_:Int):Nat:=(oG at_ (b.length:Int)).toNat
def om(b:List UInt8)(at_ x:Int):List UInt8:=match b[y8 b at_]? with
 | none=>b
 | some y=>b.set (y8 b at_) (y ^^^ CR x)
theorem afT(x:Int):CR x≠0:=by
 unfold CR;intro h;have h1:=vb (1+(IntKind.u64.wrap x) % 255);rw[h] at h1;have bE:((0:UInt8).toNat:Int)=0:=rfl;omega
theorem afU(y:UInt8){z:UInt8}(h:z≠0):y ^^^ z≠y:=by
 intro e;apply h;have je:=congrArg UInt8.toNat e;rw[UInt8.toNat_xor] at je;have tY:y.toNat ^^^ z.toNat=y.toNat ^^^ 0:=(by rw[je];simp);exact UInt8.toNat.inj (Vm tY)
theorem M0{b:List UInt8}(h:1<=b.length)(at_:Int):y8 b at_<b.length:=by
 unfold y8 oG;have ag:=Int.emod_nonneg (IntKind.u64.wrap at_) (by omega:(b.length:Int)≠0);have aB:=Int.emod_lt_of_pos (IntKind.u64.wrap at_) (by omega:(0:Int)<(b.length:Int));omega
theorem M1{b:List UInt8}{at_ x:Int}{y:UInt8}(h:b[y8 b at_]?=some y):om b at_ x=b.set (y8 b at_) (y ^^^ CR x):=by unfold om;rw[h]
theorem afV(b:List UInt8)(at_ x:Int):(om b at_ x).length=b.length:=by
 unfold om;split
 . rfl
 . rw[List.length_set]
theorem afW{b:List UInt8}(h:1<=b.length)(at_ x:Int):∃y,b[y8 b at_]?=some y/\om b at_ x=b.set (y8 b at_) (y ^^^ CR x)/\y ^^^ CR x≠y:=by
 have:=M0 h at_;exact⟨_,List.getElem?_eq_getElem this,M1 (List.getElem?_eq_getElem this),afU _ (afT x)⟩
theorem Vt{words:List aj}(h:e7 words=0):10<=(k0 words).length:=by
 rw[<-CL h,nd];omega
theorem Vu{words:List aj}(h:e7 words=0)(at_ x:Int):iv (om (k0 words) at_ x)=([],9):=by
 have bk:=Vt h;obtain⟨y,h1,ag,aB⟩:=afW (b:=k0 words) aa at_ x;rw[ag];rw[<-CL h] at h1 ⊢;exact afN h1 aB
end Go.ak
namespace Go.ak
open Go.aF
theorem E9{b:List UInt8}{n:Nat}{a f a2:Int}{q:Bool}(aN:xK n)(h:ea b n (a,q)=(f,(a2,false))):q=false/\0<=a/\a2=a+n/\a2<=b.length/\0<=f/\f<256 ^ n/\b.drop a.toNat=fl f n++b.drop a2.toNat:=by
 cases bX:mN b a n with
 | false=>rw[y3 bX] at h;simp at h
 | true =>
  rw[vg bX] at h;have hk:=bX;unfold mN at hk;have hk:=of_decide_eq_true hk;simp only[Prod.mk.injEq] at h;obtain⟨rfl,rfl,rfl⟩:=h
  have cN:j' b a n=(kY ((b.drop a.toNat).take n):Int):=by
   unfold j'
   rw[if_pos bX,Int.toNat_natCast]
  have bk:((b.drop a.toNat).take n).length=n:=(by rw[List.length_take,List.length_drop];omega);have hp:=Mw (l:=(b.drop a.toNat).take n);rw[bk] at hp;refine⟨rfl,by omega,rfl,by omega,by omega,by rw[cN];have ag:=Int.ofNat_lt.2 hp;rw[Int.natCast_pow] at ag;exact ag,?_⟩;rw[cN,MQ aN bk,show(a+(n:Int)).toNat=a.toNat+n from by omega,<-List.drop_drop,List.take_append_drop]
theorem afX{b:List UInt8}{a a2:Int}{q:Bool}{e:cg}(h:rW b (a,q)=(e,(a2,false))):q=false/\0<=a/\0<=a2/\y7 e/\b.drop a.toNat=ma e++b.drop a2.toNat:=by
 unfold rW at h;simp only[Prod.mk.injEq] at h;generalize a':ea b 4 (a,q)=x at *;obtain⟨f,h9,d'⟩:=x;dsimp only at h;generalize cI:ea b 2 (h9,d' || decide (f>1114111))=y at *;obtain⟨t,a3,fF⟩:=y;dsimp only at h;obtain⟨rfl,h⟩:=h;simp only[Prod.mk.injEq] at h;obtain⟨rfl,rfl⟩:=h;obtain⟨bF,cB,dG,g',i7,pa,oi⟩:=E9 (.inr (.inl rfl)) cI;obtain⟨rfl,y9⟩:=Bool.or_eq_false_iff.1 bF;obtain⟨rfl,dR,E_,E',M3,afY,M4⟩:=E9 (.inr (.inr rfl)) a';have bC:¬ f>1114111:=of_decide_eq_false y9;have hw:=wrap32 M3 aa;refine⟨rfl,dR,by omega,⟨by dsimp only;rw[hw];exact M3,by dsimp only;rw[hw];omega,i7,by dsimp only;omega⟩,?_⟩;rw[M4,oi];unfold ma;rw[hw,List.append_assoc]
theorem Vv{b:List UInt8}:∀(n:Nat) {a a2:Int} {es:List cg},kt b n (a,false)=(es,(a2,false))->0<=a->es.length=n/\(∀e∈es,y7 e)/\0<=a2/\b.drop a.toNat=es.flatMap ma++b.drop a2.toNat
 | 0,a,a2,es,h,ax=>by
  unfold kt at h
  simp only[Prod.mk.injEq] at h
  obtain⟨rfl,rfl,_⟩:=h
  exact⟨rfl,by simp,ax,by simp⟩
 | n+1,a,a2,es,h,ax=>by
  unfold kt at h
  rw[if_neg di] at h
  simp only[Prod.mk.injEq] at h
  generalize a':rW b (a,false)=x at *
  obtain⟨e,h9,d'⟩:=x
  dsimp only at h
  generalize cI:kt b n (h9,d')=y at *
  obtain⟨afZ,s2⟩:=y
  dsimp only at h
  obtain⟨rfl,rfl⟩:=h
  have dB:=Vr n (s:=(h9,d')) (by rw[cI])
  dsimp only at dB
  subst dB
  obtain⟨_,cB,dG,g',i7⟩:=afX a'
  obtain⟨fX,dR,E_,E'⟩:=Vv n cI dG
  refine⟨by rw[List.length_cons,fX],λnG he=>?_,E_,by rw[i7,E',List.flatMap_cons,List.append_assoc]⟩
  rcases List.mem_cons.1 he with rfl|he
  . exact g'
  . exact dR nG he
theorem af0{b:List UInt8}{a a2:Int}{q:Bool}{x:cx}(h:mb b (a,q)=(x,(a2,false))):q=false/\0<=a/\0<=a2/\xL x/\b.drop a.toNat=kF x++b.drop a2.toNat:=by
 unfold mb at h;simp only[Prod.mk.injEq] at h;generalize a':ea b 1 (a,q)=aw at *;obtain⟨f,h9,d'⟩:=aw;dsimp only at h;generalize cI:ea b 2 (h9,d' || decide (f>1))=y at *;obtain⟨c,a3,fF⟩:=y;dsimp only at h;generalize e0:kt b c.toNat (a3,fF)=z at *;obtain⟨es,ar9⟩:=z;dsimp only at h;obtain⟨rfl,rfl⟩:=h;have dB:=Vr _ (s:=(a3,fF)) (by rw[e0]);dsimp only at dB;subst dB;obtain⟨bF,cB,dG,g',i7,pa,oi⟩:=E9 (.inr (.inl rfl)) cI;obtain⟨rfl,y9⟩:=Bool.or_eq_false_iff.1 bF;obtain⟨rfl,dR,E_,E',M3,afY,M4⟩:=E9 (.inl rfl) a';obtain⟨m1,m2,m3,m4⟩:=Vv _ e0 aa;have bC:¬ f>1:=of_decide_eq_false y9;refine⟨rfl,dR,m3,⟨by dsimp only;omega,m2⟩,?_⟩;rw[M4,oi,m4];unfold kF;dsimp only
 have fV:(if decide (f=1)=true then(1:Int) else 0)=f:=by
  by_cases h1:f=1
  . rw[if_pos (decide_eq_true h1)];exact h1.symm
  . rw[if_neg (by simpa using h1)];omega
 rw[fV,m1,show(c.toNat:Int)=c from by omega];simp only[List.append_assoc]
theorem Vw{b:List UInt8}:∀(n:Nat) {a a2:Int} {N:List cx},lh b n (a,false)=(N,(a2,false))->0<=a->N.length=n/\(∀x∈N,xL x)/\0<=a2/\b.drop a.toNat=N.flatMap kF++b.drop a2.toNat
 | 0,a,a2,N,h,ax=>by
  unfold lh at h
  simp only[Prod.mk.injEq] at h
  obtain⟨rfl,rfl,_⟩:=h
  exact⟨rfl,by simp,ax,by simp⟩
 | n+1,a,a2,N,h,ax=>by
  unfold lh at h
  rw[if_neg di] at h
  simp only[Prod.mk.injEq] at h
  generalize a':mb b (a,false)=x at *
  obtain⟨e,h9,d'⟩:=x
  dsimp only at h
  generalize cI:lh b n (h9,d')=y at *
  obtain⟨afZ,s2⟩:=y
  dsimp only at h
  obtain⟨rfl,rfl⟩:=h
  have dB:=Vs n (s:=(h9,d')) (by rw[cI])
  dsimp only at dB
  subst dB
  obtain⟨_,cB,dG,g',i7⟩:=af0 a'
  obtain⟨fX,dR,E_,E'⟩:=Vw n cI dG
  refine⟨by rw[List.length_cons,fX],λnG he=>?_,E_,by rw[i7,E',List.flatMap_cons,List.append_assoc]⟩
  rcases List.mem_cons.1 he with rfl|he
  . exact g'
  . exact dR nG he
theorem Vx{b:List UInt8}(h:(iv b).2=0):∃N,b=kZ N/\lB N≠[]/\(iv b).1=lB N:=by
 obtain⟨c,a0,N,h1,ag,aB,bE,c3,eX,kC⟩:=afR h;refine⟨N,?_,eX,kC⟩;have ku:(b.take (b.length-4)).length=b.length-4:=(by rw[List.length_take];omega);obtain⟨_,_,dG,g',i7,pa,oi⟩:=E9 (.inr (.inl rfl)) bE;obtain⟨m1,m2,m3,m4⟩:=Vw _ c3 aa;rw[List.drop_of_length_le (l:=b.take (b.length-4)) (i:=((b.length:Int)-4).toNat) (by rw[ku];omega),List.append_nil] at m4
 have af1:b.take (b.length-4)=hJ N:=by
  rw[<-List.take_append_drop 4 (b.take (b.length-4)),List.take_take,show min 4 (b.length-4)=4 from by omega,aB]
  have af2:(b.take (b.length-4)).drop 4=fl c 2++(b.take (b.length-4)).drop a0.toNat:=oi
  rw[af2,m4]
  unfold hJ
  rw[m1,show(c.toNat:Int)=c from by omega,List.append_assoc]
 have hd:(b.drop (b.length-4)).length=4:=(by rw[List.length_drop];omega);have fV:b=b.take (b.length-4)++b.drop (b.length-4):=(List.take_append_drop _ _).symm;have IC:=MY (b:=b.take (b.length-4)) hd;rw[<-fV,ag] at IC;have je:=MQ (.inr (.inr rfl):xK 4) hd;rw[<-IC] at je;unfold kZ xF;rw[<-af1,je];exact fV
theorem af3{b:List UInt8}(h:(iv b).2=0):∃words,e7 words=0/\b=k0 words/\(iv b).1=h7 words:=by
 obtain⟨N,h1,ag,aB⟩:=Vx h;by_cases al:xI N=true/\N.length≠0/\N.length<=721/\sC N=true/\(km N).2=true/\e7 (km N).1=0/\h7 (km N).1=N
 . refine⟨(km N).1,al.2.2.2.2.2.1,?_,by rw[aB,UU al]⟩;rw[<-CL al.2.2.2.2.2.1,al.2.2.2.2.2.2];exact h1
 . exact absurd (xJ al) ag
abbrev k2:=Bool×List (Int×Int)
def y_(b:List UInt8)(s:Int×Bool):(Int×Int)×(Int×Bool):=(((ea b 4 s).1,(ea b 2 (ea b 4 s).2).1),(ea b 2 (ea b 4 s).2).2)
def pC(b:List UInt8):Nat->Int×Bool->List (Int×Int)×(Int×Bool)
 | 0,s=>([],s)
 | n+1,s=>if s.2=true then([],s) else((y_ b s).1::(pC b n (y_ b s).2).1,(pC b n (y_ b s).2).2)
def y'(b:List UInt8)(s:Int×Bool):k2×(Int×Bool):=
 ((decide ((ea b 1 s).1=1),(pC b (ea b 2 (ea b 1 s).2).1.toNat (ea b 2 (ea b 1 s).2).2).1),(pC b (ea b 2 (ea b 1 s).2).1.toNat (ea b 2 (ea b 1 s).2).2).2)
def lj(b:List UInt8):Nat->Int×Bool->List k2×(Int×Bool)
 | 0,s=>([],s)
 | n+1,s=>if s.2=true then([],s) else((y' b s).1::(lj b n (y' b s).2).1,(lj b n (y' b s).2).2)
def za(e:cg):Int×Int:=(e.rune,e.to)
def wB(x:cx):k2:=(x.1,x.2.map za)
theorem af4{b r:List UInt8}{a:Nat}{e:cg}(h:b.drop a=ma e++r)(he:y7 e):y_ b ((a:Int),false)=(za e,(((a+6:Nat):Int),false)):=by
 unfold y7 at he;unfold ma at h;rw[List.append_assoc] at h;have bF:=vh (q:=false) h (.inr (.inr rfl)) aa aa;have cB:=um h;rw[ie] at cB;have dG:=vh (q:=false) cB (.inr (.inl rfl)) aa aa;unfold y_ za;rw[bF];dsimp only;rw[dG]
theorem Vy{b:List UInt8}:∀(es:List cg) (a:Nat) (r:List UInt8),b.drop a=es.flatMap ma++r->(∀e∈es,y7 e)->pC b es.length ((a:Int),false)=(es.map za,(((a+6*es.length:Nat):Int),false))
 | [],a,r,h,_=>by simp[pC]
 | e::es,a,r,h,ah=>by
  rw[List.flatMap_cons,List.append_assoc] at h
  have bF:=af4 h (ah e di)
  have cB:=um h
  rw[MR] at cB
  have dG:=Vy es (a+6) r cB (λe h=>ah e (by simp[h]))
  rw[List.length_cons]
  conv=>lhs;unfold pC
  rw[if_neg di,bF]
  simp only[dG,List.map_cons]
  rw[show a+6+6*es.length=a+6*(es.length+1) from by omega]
theorem af5{b r:List UInt8}{a:Nat}{x:cx}(h:b.drop a=kF x++r)(ah:xL x):y' b ((a:Int),false)=(wB x,(((a+uo x:Nat):Int),false)):=by
 unfold xL at ah;unfold kF at h;rw[List.append_assoc,List.append_assoc] at h;have bC:0<=(if x.1=true then(1:Int) else 0)/\(if x.1=true then(1:Int) else 0)<256:=(by split<;>omega);have bF:=vh (q:=false) h (.inl rfl) bC.1 (by have:=bC.2;omega);have cB:=um h;rw[ie] at cB;have dG:=vh (q:=false) cB (.inr (.inl rfl)) aa (by have:=ah.1;omega);have g':=um cB;rw[ie] at g';have i7:=Vy x.2 _ r g' ah.2;unfold y' wB uo;rw[bF];dsimp only;rw[dG];dsimp only;rw[Int.toNat_natCast,i7];dsimp only;have fV:decide ((if x.1=true then(1:Int) else 0)=1)=x.1:=(by cases x.1<;>rfl);rw[fV,show a+1+2+6*x.2.length=a+(3+6*x.2.length) from by omega]
theorem Vz{b:List UInt8}:∀(N:List cx) (a:Nat) (r:List UInt8),b.drop a=N.flatMap kF++r->(∀x∈N,xL x)->lj b N.length ((a:Int),false)=(N.map wB,(((a+sD N:Nat):Int),false))
 | [],a,r,h,_=>by simp[lj,sD]
 | x::N,a,r,h,ah=>by
  rw[List.flatMap_cons,List.append_assoc] at h
  have bF:=af5 h (ah x di)
  have cB:=um h
  rw[MS] at cB
  have dG:=Vz N (a+uo x) r cB (λe h=>ah e (by simp[h]))
  rw[List.length_cons]
  conv=>lhs;unfold lj
  rw[if_neg di,bF]
  simp only[dG,List.map_cons]
  rw[show a+uo x+sD N=a+sD (x::N) from by unfold sD;simp only[List.map_cons,List.sum_cons];omega]
def pb(g:List aj->Int×Int->List aj×Bool):List aj->List (Int×Int)->List aj×Bool
 | out,[]=>(out,true)
 | out,e::es=>if e.1>1114111 then(out,false) else if (g out e).2=false\/(g out e).1.length=out.length then((g out e).1,false) else pb g (g out e).1 es
def ij(N:List k2):Nat->Int->Int->aj->List aj->List aj×Bool
 | 0,_,_,_,out=>(out,false)
 | f+1,n,d,a,out=>if n<0\/n>=N.length\/d>12\/out.length>60 then(out,false) else match N[n.toNat]? with
  | none=>(out,false)
  | some x=>pb (λout e=>ij N f e.2 (d+1) (a++fE e.1) out) (if x.1=true then out++[a] else out) x.2
theorem VA{g:List aj->Int×Int->List aj×Bool}(h:∀out e,out.length<=61->(g out e).1.length<=61):∀(es:List (Int×Int)) (out:List aj),out.length<=61->(pb g out es).1.length<=61
 | [],out,ee=>ee
 | e::es,out,ee=>by
  unfold pb
  split
  . exact ee
  . split
    . exact h out e ee
    . exact VA h es _ (h out e ee)
theorem ID(N:List k2):∀(f:Nat) (n d:Int) (a:aj) (out:List aj),out.length<=61->(ij N f n d a out).1.length<=61
 | 0,_,_,_,out,h=>h
 | f+1,n,d,a,out,h=>by
  unfold ij
  split
  . exact h
  . rename_i aN
    split
    . exact h
    . refine VA (λout e h=>ID N f _ _ _ out h) _ _ ?_
      split
      . rw[List.length_append];simp only[List.length_cons,List.length_nil]
        have:¬ out.length>60:=λk=>aN (.inr (.inr (.inr k)))
        omega
      . exact h
theorem VB{g:List aj->Int×Int->List aj×Bool}(h:∀out e,(∀t∈out,t.length<=1000)->∀t∈(g out e).1,t.length<=1000):∀(es:List (Int×Int)) (out:List aj),(∀t∈out,t.length<=1000)->∀t∈(pb g out es).1,t.length<=1000
 | [],out,ee=>ee
 | e::es,out,ee=>by
  unfold pb
  split
  . exact ee
  . split
    . exact h out e ee
    . exact VB h es _ (h out e ee)
theorem VC(N:List k2):∀(f:Nat) (n d:Int) (a:aj) (out:List aj),(a.length:Int)<=4*d->(∀t∈out,t.length<=1000)->∀t∈(ij N f n d a out).1,t.length<=1000
 | 0,_,_,_,out,_,h=>h
 | f+1,n,d,a,out,ax,h=>by
  unfold ij
  split
  . exact h
  . rename_i aN
    split
    . exact h
    . refine VB (λout e h=>VC N f _ _ _ out (by have:=y5 e.1;simp only[List.length_append];omega) h) _ _ ?_
      have:¬ d>12:=λk=>aN (.inr (.inr (.inl k)))
      split
      . intro t a8
        rcases List.mem_append.1 a8 with a8|a8
        . exact h t a8
        . simp only[List.mem_singleton] at a8;subst a8;omega
      . exact h
section
variable {s:c6}
theorem af6{a:aj}{d:Int}{f:Nat}{N:List k2}(MV:∀(n:Nat) (a:aj) (l:List aj) (y:List aj×List cg),s[n]?=some y->d+1+my y.1<=12->l.length+y.1.length<=60->ij N f (n:Int) (d+1) a l=(l++y.1.map (a++·),true)):
 ∀{gs:List (Nat×List aj)} {es:List cg},c4 (λg e=>e.rune=(g.1:Int)/\∃(j:Nat) (es:List cg),e.to=(j:Int)/\s[j]?=some (g.2,es)) gs es->(∀g∈gs,kO g.1/\g.2≠[]/\d+1+my g.2<=12)->∀l:List aj,l.length+(gs.flatMap λg=>g.2.map (eg g.1++·)).length<=60 ->
  pb (λout e=>ij N f e.2 (d+1) (a++fE e.1) out) l (es.map za)=(l++(gs.flatMap λg=>g.2.map (eg g.1++·)).map (a++·),true):=by
 intro gs es h
 induction h with
 | nil=>intro _ l _;simp[pb]
 | @cons g e gs es yF a' fP =>
  intro aU l bk;obtain⟨h1,j,rP,ag,aB⟩:=yF;obtain⟨bF,dG,cB⟩:=aU g di;have af7:=bF;unfold kO at af7;rw[List.flatMap_cons,List.length_append,List.length_map] at bk
  have af8:ij N f (za e).2 (d+1) (a++fE (za e).1) l=(l++g.2.map ((a++eg g.1)++·),true):=by
   show ij N f e.to (d+1) (a++fE e.rune) l=_
   rw[ag,h1,yP bF]
   exact MV j _ l (g.2,rP) aB cB (by simp only;omega)
  have CS:0<g.2.length:=List.length_pos_iff.2 dG;rw[List.map_cons];unfold pb;rw[if_neg (by show ¬ e.rune>_;omega),af8,if_neg (by rintro(h|h);cases h;simp only[List.length_append,List.length_map] at h;omega)];rw[fP (λfy tf=>aU fy (by simp[tf])) _ (by simp only[List.length_append,List.length_map];omega)];rw[List.flatMap_cons,List.map_append,List.map_map,List.append_assoc];congr 3
  apply List.map_congr_left;intro t _;simp
theorem af9(me:∀y∈s,o8 s y/\gy y.1):∀(f n:Nat) (a:aj) (d:Int) (l:List aj) (y:List aj×List cg),s[n]?=some y->0<=d->d+my y.1<=12->13<=d+f->l.length+y.1.length<=60->ij ((fW s).map wB) (f+1) (n:Int) d a l=(l++y.1.map (a++·),true):=by
 intro f
 induction f with
 | zero=>intro n a d l y aN bH h1 ag _;omega
 | succ f cc =>
  intro n a d l y aN bH h1 ag bk;obtain⟨al,aU⟩:=me y (List.mem_of_getElem? aN);have hN:=(List.getElem?_eq_some_iff.1 aN).1;have q_:((fW s).map wB).length=s.length:=(by rw[List.length_map,va]);have fY:=HS (x:=y) aU;have ah:((fW s).map wB)[(n:Int).toNat]?=some (wB (j5 y.1,y.2)):=by rw[Int.toNat_natCast,List.getElem?_map,Iy aN];rfl
  conv=>lhs;unfold ij
  rw[if_neg (by rw[q_];rintro(h|h|h|h)<;>omega),ah];rw[show wB (j5 y.1,y.2)=(j5 y.1,y.2.map za) from rfl];dsimp only;have hlen:=congrArg List.length fY;rw[List.length_append] at hlen;have key:=λCQ tW=>af6 (s:=s) (a:=a) (d:=d) (f:=f+1) (N:=(fW s).map wB) (λn a l y aN hd bk=>cc n a (d+1) l y aN aa hd aa bk) al (λg iO=>⟨(CO aU iO).1,(CO aU iO).2.1,by have:=E7 aU iO;omega⟩) CQ tW
  cases bC:j5 y.1 with
  | true =>
   rw[bC,if_pos rfl] at fY;rw[bC,if_pos rfl] at hlen;rw[if_pos rfl,key _ (by simp only[List.length_append,List.length_cons,List.length_nil] at hlen ⊢;omega)]
   conv=>rhs;rw[fY]
   simp
  | false =>
   rw[bC,if_neg b5] at fY;rw[bC,if_neg b5] at hlen;rw[if_neg b5,key _ (by simp only[List.length_nil] at hlen ⊢;omega)]
   conv=>rhs;rw[fY]
   simp
end
def nn(b:List UInt8):Bool:=decide (¬ b.length<4/\j' b ((b.length:Int)-4) 4=(kE (b.take (b.length-4)):Int))
def h4(b:List UInt8):List aj×Int:=
 if nn b=false then([],9) else
 if (lj b (ea b 2 (4,false)).1.toNat (ea b 2 (4,false)).2).2.2=true then([],8) else
 if (ij (lj b (ea b 2 (4,false)).1.toNat (ea b 2 (4,false)).2).1 14 0 0 [] []).2=false then([],8) else
 if ¬ e7 (ij (lj b (ea b 2 (4,false)).1.toNat (ea b 2 (4,false)).2).1 14 0 0 [] []).1=0\/¬ k0 (ij (lj b (ea b 2 (4,false)).1.toNat (ea b 2 (4,false)).2).1 14 0 0 [] []).1=b then([],8) else
 ((ij (lj b (ea b 2 (4,false)).1.toNat (ea b 2 (4,false)).2).1 14 0 0 [] []).1,0)
theorem VD{b:List UInt8}(h:nn b=false):h4 b=([],9):=by unfold h4;rw[if_pos h]
section
variable {b:List UInt8} {c a0 a:Int} {q0 q ok:Bool} {N:List k2} {l:List aj}
theorem M5(h:nn b=true)(h1:(c,(a0,q0))=ea b 2 (4,false))(ag:lj b c.toNat (a0,q0)=(N,(a,q)))(aB:q=true):h4 b=([],8):=by
 unfold h4;rw[if_neg (by simp[h]),<-h1];simp only[ag];rw[if_pos aB]
theorem VE(h:nn b=true)(h1:(c,(a0,q0))=ea b 2 (4,false))(ag:lj b c.toNat (a0,q0)=(N,(a,q)))(aB:q=false)(bE:ij N 14 0 0 [] []=(l,ok))(c3:ok=false):h4 b=([],8):=by
 unfold h4;rw[if_neg (by simp[h]),<-h1];simp only[ag];rw[if_neg (by simp[aB]),if_pos (by rw[bE];exact c3)]
theorem M6(h:nn b=true)(h1:(c,(a0,q0))=ea b 2 (4,false))(ag:lj b c.toNat (a0,q0)=(N,(a,q)))(aB:q=false)(bE:ij N 14 0 0 [] []=(l,ok))(c3:ok=true)(eX:¬ e7 l=0\/¬ k0 l=b):h4 b=([],8):=by
 unfold h4;rw[if_neg (by simp[h]),<-h1];simp only[ag,bE];rw[if_neg (by simp[aB]),if_neg (by simp[c3]),if_pos eX]
theorem M7(h:nn b=true)(h1:(c,(a0,q0))=ea b 2 (4,false))(ag:lj b c.toNat (a0,q0)=(N,(a,q)))(aB:q=false)(bE:ij N 14 0 0 [] []=(l,ok))(c3:ok=true)(eX:¬ (¬ e7 l=0\/¬ k0 l=b)):h4 b=(l,0):=by
 unfold h4;rw[if_neg (by simp[h]),<-h1];simp only[ag,bE];rw[if_neg (by simp[aB]),if_neg (by simp[c3]),if_neg eX]
end
theorem VF(b:List UInt8):h4 b=([],9)/\nn b=false\/(h4 b=([],8)/\nn b=true)\/(nn b=true/\(h4 b).2=0/\e7 (h4 b).1=0/\k0 (h4 b).1=b):=by
 cases ee:nn b with
 | false=>exact .inl ⟨VD ee,rfl⟩
 | true =>
  right;obtain⟨⟨c,a0,q0⟩,h1⟩:∃x,x=ea b 2 (4,false):=⟨_,rfl⟩;obtain⟨⟨N,a,q⟩,ag⟩:∃x,lj b c.toNat (a0,q0)=x:=⟨_,rfl⟩
  cases aB:q with
  | true=>exact .inl ⟨M5 ee h1 ag aB,rfl⟩
  | false =>
   obtain⟨⟨l,ok⟩,bE⟩:∃x,ij N 14 0 0 [] []=x:=⟨_,rfl⟩
   cases c3:ok with
   | false=>exact .inl ⟨VE ee h1 ag aB bE c3,rfl⟩
   | true =>
    by_cases eX:¬ e7 l=0\/¬ k0 l=b
    . exact .inl ⟨M6 ee h1 ag aB bE c3 eX,rfl⟩
    . rw[M7 ee h1 ag aB bE c3 eX];exact .inr ⟨rfl,rfl,Classical.byContradiction λk=>eX (.inl k),Classical.byContradiction λk=>eX (.inr k)⟩
theorem M8{b:List UInt8}(h:nn b=false):iv b=([],9):=by
 unfold nn at h;have h:=of_decide_eq_false h;by_cases h1:b.length<4
 . exact Iw h1
 . exact CN h1 λk=>h ⟨h1,k⟩
theorem VG{b:List UInt8}(h:nn b=true):(iv b).2=0\/iv b=([],8):=by
 unfold nn at h;obtain⟨h1,ag⟩:=of_decide_eq_true h;unfold iv;rw[if_neg h1,if_neg (λk=>k ag)];split
 . exact .inr rfl
 split
 . exact .inr rfl
 split
 . exact .inr rfl
 . exact .inl rfl
theorem VH{words:List aj}(h:e7 words=0):h4 (k0 words)=(words,0):=by
 have AS:=Vl h;have bk:=(CK h).2;have VI:=IB h
 have af_:nn (k0 words)=true:=by
  cases ee:nn (k0 words) with
  | true=>rfl
  | false=>rw[M8 ee] at VI;simp at VI
 have he:k0 words=hJ (h7 words)++fl (kE (hJ (h7 words))) 4:=(by rw[<-CL h];rfl);have E5:(k0 words).drop 4=fl (h7 words).length 2++((h7 words).flatMap kF++fl (kE (hJ (h7 words))) 4):=(by rw[he];unfold hJ;simp);have bE:=vh (q:=false) E5 (.inr (.inl rfl)) aa aa;have E6:=um E5;rw[ie] at E6;have c3:=Vz _ 6 _ E6 AS
 have hw:ij ((h7 words).map wB) 14 0 0 [] []=(words,true):=by
  by_cases hw:words=[]
  . subst hw
    rw[H4 rfl];decide
  . have jL:=th h
    have bX:=Cs jL.2 jL.1 hw
    have hr:=uh h
    unfold o_ at hr
    rw[if_neg hw] at hr
    obtain⟨tp,bH⟩:=bX.root
    have afI:=Vb jL.2
    have:=af9 (s:=te words) (λy aD=>⟨(bX.node y aD).wh,(bX.node y aD).e9⟩) 13 0 [] 0 [] (words,tp) bH aa (by simp only;omega) aa (by have:=(wg h).1;simp only[List.length_nil];omega)
    rw[hr]
    simpa using this
 exact M7 af_ bE.symm (by rw[Int.toNat_natCast];exact c3) rfl hw rfl (by rintro(k|k);exact k h;exact k rfl)
theorem CT(b:List UInt8):(iv b).2=(h4 b).2/\((iv b).2=0->e7 (h4 b).1=0/\(iv b).1=h7 (h4 b).1):=by
 rcases VF b with ⟨h1,ag⟩|⟨h1,ag⟩|⟨h1,ag,aB,bE⟩
 . rw[M8 ag,h1];exact⟨rfl,λh=>by cases h⟩
 . rcases VG ag with h|h
   . obtain⟨words,bF,cB,dG⟩:=af3 h;rw[cB,VH bF] at h1;simp at h1
   . rw[h,h1];exact⟨rfl,λh=>by cases h⟩
 . have k:=IB aB;rw[bE] at k;rw[k,ag];exact⟨rfl,λ_=>⟨aB,rfl⟩⟩
end Go.ak
namespace Go.ak
open Go.aF
theorem af'{l:List aj}(aT:o6 l)(hw:∀w∈l,word w=true)(bk:l.length<=60):e7 l=0:=by
 unfold e7;rw[if_neg aa,if_pos (List.all_eq_true.2 hw),if_pos (S1 aT)]
end Go.ak
namespace Go.ak
open Go.aF
theorem aga{cuts:List Key}{words:List aj}(h:e7 words=0)(shard:Int):e7 (rO cuts words shard)=0:=by
 obtain⟨h1,ag,aB⟩:=wg h;refine af' (List.Pairwise.filter _ aB) (λw hw=>ag w (List.mem_filter.1 hw).1) ?_;have:=List.length_filter_le (t' cuts shard) words;unfold rO;omega
theorem agb{c:cE}(h:may c=true):e7 c.words=0:=by
 unfold may at h;simp only[Bool.and_eq_true,beq_iff_eq] at h;exact h.1.1
theorem agc{c:cE}(s:Int):(px c s).length<=c.words.length:=List.length_filter_le _ _
theorem M9{c:cE}(h:may c=true)(s:Int):e7 (px c s)=0:=aga (agb h) s
theorem VJ{c:cE}(h:may c=true){s:Int}(bH:0<=s)(h1:s<(jf c:Int)):gY c s=k0 (px c s)/\wz c s=0:=by
 obtain⟨ag,aB⟩:=E1 (c:=c) bH h1;exact⟨ag.symm,aB.symm.trans (M9 h s)⟩
end Go.ak
namespace Go.aF
open Go
section
variable {R kl:Nat->Prop} {w:World}
theorem M_{α:Type}:∀(A C B:List α),(List.range' C.length A.length).filterMap (λi=>(C++A++B)[i]?)=A
 | [],C,B=>rfl
 | a::A,C,B=>by
  have:=M_ A (C++[a]) B
  rw[List.length_cons,List.range'_succ,List.filterMap_cons]
  have h1:(C++a::A++B)[C.length]?=some a:=by simp
  rw[h1]
  simp only
  rw[List.length_append,List.length_cons,List.length_nil] at this
  rw[show C++a::A++B=C++[a]++A++B from by simp,this]
theorem Sep.A3{A B:List (dq R)}(h:Sep (A++B) kl w):Sep (B++A) kl w:=by
 have:=h.yW (List.range' A.length B.length++List.range' 0 A.length) (by
  rw[List.all_eq_true]
  intro i ar
  rw[List.mem_append,List.mem_range'_1,List.mem_range'_1] at ar
  rw[List.length_append]
  exact decide_eq_true aa) (by
  rw[List.nodup_append]
  refine⟨List.nodup_range',List.nodup_range',λa ax b ab=>?_⟩
  rw[List.mem_range'_1] at ax ab
  omega)
 rw[List.filterMap_append] at this;have h1:=M_ B A [];have ag:=M_ A [] B;rw[List.append_nil] at h1;rw[List.length_nil,List.nil_append] at ag;rw[h1,ag] at this;exact this
theorem Sep.v7{A B:List (dq R)}{x:dq R}(h:Sep (A++x::B) kl w):Sep [bl A,x,bl B] kl w:=by
 have h1:Sep ((A++[x])++B) kl w:=(by simpa using h);have ag:Sep (A++[x,bl B]) kl w:=(by simpa using h1.close);have aB:=(ag.A3).close (L1:=[x,bl B]) (L2:=A);exact aB.yW [2,0,1] rfl b5
theorem Sep.agd{A B:List (dq R)}{x:dq R}(h:Sep [bl A,x,bl B] kl w):Sep (A++x::B) kl w:=by
 have h1:Sep ([x,bl B]++[bl A]) kl w:=h.yW [1,2,0] rfl b5;have ag:=(h1.open).A3;have aB:Sep ((A++[x])++[bl B]) kl w:=(by simpa using ag);have bE:=aB.open;simpa using bE
def nR(b:Nat):Value:=ptr b 0
structure kv where
 shard:Int
 ptr:Nat
 e9:List UInt8
 now:List UInt8
def hz(eI u8:TypeId)(x:kv):dq R:=nN λvs:Value×Value=>bl [ay x.ptr [vs.1,vs.2] eI,aS en u8 1 vs.1 x.e9,aS en u8 1 vs.2 x.now]
theorem age{eI u8:TypeId}{D:List kv}{k:Nat}{x:kv}(ah:D[k]?=some x):∀F:Nat->Prop,(bl (R:=R) (D.map (hz eI u8))).p F w->(bl (R:=R) [bl ((D.take k).map (hz eI u8)),hz eI u8 x,bl ((D.drop (k+1)).map (hz eI u8))]).p F w:=by
 intro F h
 have e:D=D.take k++x::D.drop (k+1):=by
  have:=(List.getElem?_eq_some_iff.1 ah).2
  rw[<-this];simp
 rw[e] at h;rw[List.map_append,List.map_cons] at h;exact Sep.v7 h
theorem agf{eI u8:TypeId}{D:List kv}{k:Nat}{x y:kv}(ah:D[k]?=some x):∀F:Nat->Prop,(bl (R:=R) [bl ((D.take k).map (hz eI u8)),hz eI u8 y,bl ((D.drop (k+1)).map (hz eI u8))]).p F w->(bl (R:=R) ((D.set k y).map (hz eI u8))).p F w:=by
 intro F h;have hk:=(List.getElem?_eq_some_iff.1 ah).1;have e:D.set k y=D.take k++y::D.drop (k+1):=(by rw[List.set_eq_take_append_cons_drop,if_pos hk]);rw[e,List.map_append,List.map_cons];exact Sep.agd h
def agh(ji eI u8:TypeId)(df:Nat)(life:Int)(D:List kv):dq R:=nN λe8:Nat=>bl [ay df [.map (some e8),.int .i64 life] ji,lA fB nR e8 (D.map λx=>(x.shard,x.ptr)),bl (D.map (hz eI u8))]
end
end Go.aF
namespace Go.ak
open Go.aF
abbrev cZ:=Int×List UInt8×List UInt8
def jN(D:List cZ)(s:Int):Option cZ:=D.find? λx=>decide (x.1=s)
def pD(D:List cZ)(s:Int):Int:=match jN D s with|none=>4|some _=>0
def iP(D:List cZ)(s:Int):List UInt8:=match jN D s with|none=>[]|some x=>x.2.2
def sE(D:List cZ)(s:Int):Bool:=match jN D s with|none=>false|some x=>decide (x.2.2≠x.2.1)
def oo(D:List cZ)(s:Int)(f:List UInt8->List UInt8):List cZ:=D.map λx=>if x.1=s then(x.1,x.2.1,f x.2.1) else x
def xM(D:List cZ)(s at_ x:Int):List cZ:=oo D s λb=>om b at_ x
def xN(D:List cZ)(s:Int):List cZ:=oo D s id
def oJ(D:List cZ):Prop:=(D.map (·.1)).Nodup/\∀x∈D,1<=x.2.1.length/\x.2.1.length<=4000000/\x.2.2.length=x.2.1.length
theorem agi(D:List cZ)(s:Int)(f:List UInt8->List UInt8):(oo D s f).map (·.1)=D.map (·.1):=by
 unfold oo;rw[List.map_map];apply List.map_congr_left;intro x _;simp only[Function.comp];split<;>rfl
theorem oJ.put{D:List cZ}(h:oJ D)(s:Int){f:List UInt8->List UInt8}(bC:∀b,(f b).length=b.length):oJ (oo D s f):=by
 refine⟨by rw[agi];exact h.1,λx ah=>?_⟩;unfold oo at ah;obtain⟨y,aD,rfl⟩:=List.mem_map.1 ah;have:=h.2 y aD;split
 . exact⟨this.1,this.2.1,bC _⟩
 . exact this
theorem VK(D:List cZ)(s t:Int)(f:List UInt8->List UInt8):jN (oo D s f) t=(jN D t).map λx=>if x.1=s then(x.1,x.2.1,f x.2.1) else x:=by
 unfold jN oo;rw[List.find?_map];congr 2
 funext x;simp only[Function.comp];split<;>rfl
theorem zb{D:List cZ}{s:Int}{x:cZ}(h:jN D s=some x):x.1=s/\x∈D:=by
 unfold jN at h;have ag:=List.find?_some h;exact⟨of_decide_eq_true ag,List.mem_of_find?_eq_some h⟩
theorem agj{D:List cZ}{s:Int}{x:cZ}(h:jN D s=some x):∃k,D[k]?=some x/\x.1=s/\∀(j:Nat) (y:cZ),j<k->D[j]?=some y->y.1≠s:=by
 unfold jN at h
 induction D with
 | nil=>cases h
 | cons y D cc =>
  rw[List.find?_cons] at h;by_cases aD:y.1=s
  . rw[decide_eq_true aD] at h;simp only[Option.some.injEq] at h;subst h;exact⟨0,rfl,aD,λj y bn=>absurd bn (Nat.not_lt_zero _)⟩
  . rw[decide_eq_false aD] at h;obtain⟨k,h1,ag,aB⟩:=cc h;refine⟨k+1,h1,ag,λj z bn cS=>?_⟩
    cases j with
    | zero=>simp only[List.getElem?_cons_zero,Option.some.injEq] at cS;subst cS;exact aD
    | succ j=>exact aB j z aa (by simpa using cS)
theorem M'{D:List cZ}{s:Int}{x:cZ}{k:Nat}{f:List UInt8->List UInt8}(aN:(D.map (·.1)).Nodup)(ah:D[k]?=some x)(aT:x.1=s):oo D s f=D.set k (x.1,x.2.1,f x.2.1):=by
 unfold oo;apply List.ext_getElem?;intro j;rw[List.getElem?_map,List.getElem?_set];have hk:=(List.getElem?_eq_some_iff.1 ah).1;by_cases bn:k=j
 . subst bn;rw[ah,if_pos rfl,if_pos hk];simp[aT]
 . rw[if_neg bn]
   cases aD:D[j]? with
   | none=>rfl
   | some y =>
    simp only[Option.map_some,Option.some.injEq];rw[if_neg];intro e;have h1:(D.map (·.1))[k]?=some s:=(by rw[List.getElem?_map,ah,<-aT];rfl);have ag:(D.map (·.1))[j]?=some s:=(by rw[List.getElem?_map,aD,<-e];rfl);exact bn ((List.getElem?_inj (by rw[List.length_map];exact hk) aN).1 (h1.trans ag.symm))
theorem agk{D:List cZ}{s:Int}{f:List UInt8->List UInt8}(h:jN D s=none):oo D s f=D:=by
 unfold oo
 conv=>rhs;rw[<-List.map_id D]
 apply List.map_congr_left;intro x ah;unfold jN at h;have:=List.find?_eq_none.1 h x ah;rw[if_neg (by simpa using this)];rfl
def nS(x:kv):cZ:=(x.shard,x.e9,x.now)
theorem Na(D:List kv)(s:Int):gz (D.map λx=>(x.shard,x.ptr)) s=(D.find? λx=>decide (x.shard=s)).map (·.ptr):=by
 unfold gz;rw[List.find?_map,Option.map_map];rfl
theorem VL(D:List kv)(s:Int):jN (D.map nS) s=(D.find? λx=>decide (x.shard=s)).map nS:=by
 unfold jN;rw[List.find?_map];rfl
theorem agl{D:List kv}{s:Int}{x:cZ}(h:jN (D.map nS) s=some x):∃(k:Nat) (y:kv),D[k]?=some y/\nS y=x/\y.shard=s/\gz (D.map λx=>(x.shard,x.ptr)) s=some y.ptr:=by
 rw[VL] at h
 cases bC:D.find? λx=>decide (x.shard=s) with
 | none=>rw[bC] at h;cases h
 | some y =>
  rw[bC] at h;obtain⟨k,hk⟩:=List.mem_iff_getElem?.1 (List.mem_of_find?_eq_some bC);have ag:=List.find?_some bC;exact⟨k,y,hk,by simpa using h,of_decide_eq_true ag,by rw[Na,bC];rfl⟩
theorem agm{D:List kv}{s:Int}(h:jN (D.map nS) s=none):gz (D.map λx=>(x.shard,x.ptr)) s=none:=by
 rw[VL] at h
 cases bC:D.find? λx=>decide (x.shard=s) with
 | none=>rw[Na,bC];rfl
 | some y=>rw[bC] at h;cases h
theorem agn{D:List kv}{k:Nat}{y:kv}{s:Int}{f:List UInt8->List UInt8}(aN:oJ (D.map nS))(hk:D[k]?=some y)(aT:y.shard=s):(D.set k { y with now:=f y.e9 }).map nS=oo (D.map nS) s f:=by
 rw[M' (x:=nS y) aN.1 (by rw[List.getElem?_map,hk];rfl) aT,List.map_set];rfl
theorem ago{D:List kv}{k:Nat}{y:kv}{b:List UInt8}(hk:D[k]?=some y):((D.set k { y with now:=b }).map λx=>(x.shard,x.ptr))=D.map λx=>(x.shard,x.ptr):=by
 rw[List.map_set];apply List.ext_getElem?;intro j;rw[List.getElem?_set];split
 . rename_i h;subst h;split
   . rw[List.getElem?_map,hk];rfl
   . rw[List.getElem?_eq_none aa]
 . rfl
def rZ(c:cE)(w:Int):Bool:=may c && (decide (1<=w) && decide (w<=c.workers))
theorem IE{c:cE}{w:Int}(h1:may c=true)(ag:1<=w)(aB:w<=c.workers):rZ c w=true:=by unfold rZ;rw[h1,decide_eq_true ag,decide_eq_true aB];rfl
theorem CU{c:cE}{w:Int}(h:may c=false\/w<1\/c.workers<w):rZ c w=false:=by
 unfold rZ;rcases h with h|h|h
 . rw[h];rfl
 . rw[decide_eq_false (by omega:¬ 1<=w)];simp
 . rw[decide_eq_false (by omega:¬ w<=c.workers)];simp
theorem Nb{c:cE}{w:Int}(h:rZ c w=true):may c=true/\1<=w/\w<=c.workers:=by
 unfold rZ at h;simp only[Bool.and_eq_true,decide_eq_true_eq] at h;exact⟨h.1,h.2.1,h.2.2⟩
def np(c:cE)(w:Int):List cZ:=(b0 c w).map λs=>(s,gY c s,gY c s)
def q'(c:cE)(s:Int):cZ:=(s,gY c s,gY c s)
theorem IF(c:cE)(w:Int):np c w=(b0 c w).map (q' c):=rfl
theorem IG(c:cE)(w:Int):(b0 c w).Nodup:=by
 unfold b0;refine List.Pairwise.map _ (λa b h=>?_) ((List.nodup_range (n:=jf c)).filter _);omega
theorem VM{c:cE}{l:List Int}{k:Nat}{x:Int}(ah:l[k]?=some x):(l.take k).map (q' c)++[(x,gY c x,gY c x)]=(l.take (k+1)).map (q' c):=by
 rw[List.take_add_one,ah,List.map_append];rfl
theorem agp{c:cE}{l:List Int}(aN:l.Nodup){k:Nat}{x:Int}(ah:l[k]?=some x){D:List kv}(jr:D.map nS=(l.take k).map (q' c)):∀y∈D,y.shard≠x:=by
 intro y aD e;have h1:nS y∈(l.take k).map (q' c):=jr▸List.mem_map_of_mem aD;obtain⟨z,cS,ef⟩:=List.mem_map.1 h1;have IH:z=x:=(congrArg Prod.fst ef).trans e;obtain⟨j,bn⟩:=List.mem_iff_getElem?.1 cS;rw[List.getElem?_take] at bn;split at bn
 . rename_i n';rw[IH] at bn;have:=(List.getElem?_inj (List.getElem?_eq_some_iff.1 bn).1 aN).1 (bn.trans ah.symm);omega
 . cases bn
theorem CV{c:cE}{w s:Int}(h:s∈b0 c w):0<=s/\s<(jf c:Int):=by
 unfold b0 at h;obtain⟨k,hk,rfl⟩:=List.mem_map.1 h;have:=List.mem_range.1 (List.mem_filter.1 hk).1;omega
theorem II{c:cE}(h:may c=true)(w:Int):oJ (np c w):=by
 refine⟨?_,λx ah=>?_⟩
 . have:(np c w).map (·.1)=b0 c w:=by
    rw[IF,List.map_map]
    conv=>rhs;rw[<-List.map_id (b0 c w)]
    rfl
   rw[this];exact IG c w
 . rw[IF] at ah;obtain⟨s,aT,rfl⟩:=List.mem_map.1 ah;obtain⟨h1,ag⟩:=CV aT;obtain⟨aB,_⟩:=VJ h h1 ag;have bE:=Vt (M9 h s);have c3:=UF c s;unfold q';dsimp only;rw[aB] at c3 ⊢;exact⟨by omega,by omega,rfl⟩
theorem VN{c:cE}{w s:Int}(h:s∈b0 c w):jN (np c w) s=some (s,gY c s,gY c s):=by
 rw[IF];unfold jN;rw[List.find?_map]
 have:(b0 c w).find? ((λx:cZ=>decide (x.1=s)) ∘ q' c)=some s:=by
  cases bC:(b0 c w).find? ((λx:cZ=>decide (x.1=s)) ∘ q' c) with
  | none=>exact absurd (decide_eq_true rfl) (List.find?_eq_none.1 bC s h)
  | some y =>
   have ag:=List.find?_some bC
   have aB:y=s:=of_decide_eq_true ag
   rw[aB]
 rw[this];rfl
theorem agq{c:cE}{w s:Int}(h:s∉b0 c w):jN (np c w) s=none:=by
 cases aU:jN (np c w) s with
 | none=>rfl
 | some x =>
  obtain⟨h1,ag⟩:=zb aU;rw[IF] at ag;obtain⟨z,cS,rfl⟩:=List.mem_map.1 ag;exact absurd (h1▸cS:s∈b0 c w) h
theorem Nc{D:List cZ}{s:Int}{x:cZ}(h:jN D s=some x):pD D s=0/\iP D s=x.2.2/\sE D s=decide (x.2.2≠x.2.1):=by
 unfold pD iP sE;rw[h];exact⟨rfl,rfl,rfl⟩
theorem agr{D:List cZ}{s:Int}(h:jN D s=none):pD D s=4/\iP D s=[]/\sE D s=false:=by
 unfold pD iP sE;rw[h];exact⟨rfl,rfl,rfl⟩
theorem ags{c:cE}{w s:Int}(h:s∈b0 c w):pD (np c w) s=0/\iP (np c w) s=gY c s/\sE (np c w) s=false:=by
 obtain⟨h1,ag,aB⟩:=Nc (VN h);exact⟨h1,ag,by rw[aB];simp⟩
def nq:cE:=⟨[[97],[97,98,99],[98]],[⟨2,[]⟩],2,1,1,1,1,1,1,1,0,8⟩
theorem VO:rZ nq 1=true:=by decide +kernel
theorem agt:b0 nq 1=[0]:=by decide +kernel
end Go.ak
namespace Go.aF
open Go Go.ak
structure i_ where
 shard:Int
 r:cP
 b:cP
def ka(x:i_):List Value:=[.int .i64 x.shard,x.r.val,x.b.val]
theorem A4(x:i_):(ka x).length=3:=rfl
theorem agu(x:i_):(ka x).all (·.oneCell')=true:=rfl
def pE(w:World)(F:Nat->Prop)(rows:List i_)(K:List cZ):Prop:=c4 (λr e=>r.shard=e.1/\aq en w F r.r.val e.2.1/\aq en w F r.b.val e.2.2) rows K
theorem pE.keep{M:Nat->Prop}{w an:World}{F:Nat->Prop}{rows:List i_}{K:List cZ}(h:pE w F rows K)(hm:Mod M w an)(br:∀b,F b->¬ M b):pE an F rows K:=
 c4.imp (λ_ _ k=>⟨k.1,k.2.1.keep hm br,k.2.2.keep hm br⟩) h
theorem pE.mono{w:World}{F F':Nat->Prop}{rows:List i_}{K:List cZ}(h:pE w F rows K)(br:∀b,F b->F' b):pE w F' rows K:=
 c4.imp (λ_ _ k=>⟨k.1,k.2.1.mono br,k.2.2.mono br⟩) h
theorem pE.at{w:World}{F:Nat->Prop}{rows:List i_}{K:List cZ}(h:pE w F rows K){i:Nat}{r:i_}(a':rows[i]?=some r):∃e,K[i]?=some e/\r.shard=e.1/\aq en w F r.r.val e.2.1/\aq en w F r.b.val e.2.2:=by
 obtain⟨h1,ag⟩:=c4.get h;have ar:=(List.getElem?_eq_some_iff.1 a').1;exact⟨_,List.getElem?_eq_getElem aa,ag i r _ a' (List.getElem?_eq_getElem aa)⟩
theorem c4.set{α β:Type}{Q:α->β->Prop}:∀{l:List α} {m:List β} (k:Nat) {a:α} {b:β},c4 Q l m->Q a b->c4 Q (l.set k a) (m.set k b)
 | _,_,_,_,_,.nil,_=>.nil
 | _,_,0,_,_,.cons _ h,mL=>.cons mL h
 | _,_,k+1,_,_,.cons h1 h,mL=>.cons h1 (c4.set k h mL)
section
variable {R F:Nat->Prop} {w:World} {rows:List i_} {K:List cZ}
def jO{R:Nat->Prop}(rows:List i_)(K:List cZ):dq R:=⟨λF w=>pE w F rows K,λh hm br _=>h.keep hm br⟩
theorem agv{e:TypeId}{x:cP}{v:Value}{s:Int}{vj:List UInt8}(cN:v=x.val)(h:(bl (R:=R) [jO rows K,aS en e 1 v vj]).p F w):(jO (R:=R) (rows++[⟨s,x,x⟩]) (K++[(s,vj,vj)])).p F w:=by
 obtain⟨fr,bw,h1,ag,aB,bE⟩:=vd h;exact c4.app (pE.mono h1 aB) (.cons ⟨rfl,cN▸(tn ag).mono bE,cN▸(tn ag).mono bE⟩ .nil)
theorem agw{e:TypeId}{x:cP}{v:Value}{r:i_}{k:Nat}{vj:List UInt8}(cN:v=x.val)(a':rows[k]?=some r){y:cZ}(aD:K[k]?=some y)(h:(bl (R:=R) [jO rows K,aS en e 1 v vj]).p F w):(jO (R:=R) (rows.set k { r with b:=x }) (K.set k (y.1,y.2.1,vj))).p F w:=by
 obtain⟨fr,bw,h1,ag,aB,bE⟩:=vd h;obtain⟨nG,he,bF,cB,dG⟩:=pE.at h1 a';obtain rfl:nG=y:=Option.some.inj (he.symm.trans aD);exact c4.set k (pE.mono h1 aB) ⟨bF,cB.mono aB,cN▸(tn ag).mono bE⟩
theorem agx{r:i_}{k:Nat}(a':rows[k]?=some r){y:cZ}(aD:K[k]?=some y)(h:(jO (R:=R) rows K).p F w):(jO (R:=R) (rows.set k { r with b:=r.r }) (K.set k (y.1,y.2.1,y.2.1))).p F w:=by
 obtain⟨nG,he,bF,cB,dG⟩:=pE.at h a';obtain rfl:nG=y:=Option.some.inj (he.symm.trans aD);exact c4.set k h ⟨bF,cB,cB⟩
def kx{R:Nat->Prop}(CW eI:TypeId)(c9:Nat)(pF:Int)(K:List cZ):dq R:=nN λx:Value×List i_=>bl [ay c9 [x.1,.int .i64 pF] CW,aS ka eI 3 x.1 x.2,jO x.2 K]
def hA{R:Nat->Prop}(ji eI u8:TypeId)(df:Nat)(life:Int)(K:List cZ):dq R:=nN λD:List kv=>pA (D.map nS=K) (agh ji eI u8 df life D)
end
end Go.aF
namespace Go.aF
open Go Go.ak
section
variable {R F:Nat->Prop} {w:World}
theorem agy{eI u8:TypeId}{D:List kv}(h:(bl (R:=R) (D.map (hz eI u8))).p F w){x:kv}(ah:x∈D):∃mO gn,du w x.ptr [mO,gn] eI/\aq en w F mO x.e9/\aq en w F gn x.now:=by
 obtain⟨k,hk⟩:=List.mem_iff_getElem?.1 ah;obtain⟨fh,h1,ag,_⟩:=h;obtain⟨⟨mO,gn⟩,ab⟩:=h1 k (hz eI u8 x) (by rw[List.getElem?_map,hk];rfl);obtain⟨TC,g1,g2,_⟩:=ab;have d':=g1 0 _ rfl;have q2:=g1 1 _ rfl;have fF:=g1 2 _ rfl;refine⟨mO,gn,d'.1,(tn q2).mono λb ab=>?_,(tn fF).mono λb ab=>?_⟩
 . exact(ag k b (g2 1 b ab).1.1).1.1
 . exact(ag k b (g2 2 b ab).1.1).1.1
theorem Fa{ji eI u8:TypeId}{df:Nat}{life:Int}{K:List cZ}(h:(hA (R:=R) ji eI u8 df life K).p F w):∃(D:List kv) (e8:Nat),D.map nS=K/\du w df [.map (some e8),.int .i64 life] ji/\nk fB nR w e8 (D.map λx=>(x.shard,x.ptr))/\∀x∈D,∃mO gn,du w x.ptr [mO,gn] eI/\aq en w F mO x.e9/\aq en w F gn x.now:=by
 obtain⟨D,jr,e8,fh,h1,ag,_⟩:=h;have d':=h1 0 _ rfl;have q2:=h1 1 _ rfl;have fF:=h1 2 _ rfl;refine⟨D,e8,jr,d'.1,q2.1,λx ah=>?_⟩;obtain⟨mO,gn,bF,cB,dG⟩:=agy fF ah;exact⟨mO,gn,bF,cB.mono λb ab=>(ag 2 b ab).1.1,dG.mono λb ab=>(ag 2 b ab).1.1⟩
theorem Nd{D:List kv}{K:List cZ}{s:Int}{x:cZ}(jr:D.map nS=K)(h:jN K s=some x):∃(k:Nat) (y:kv),D[k]?=some y/\nS y=x/\y.shard=s/\gz (D.map λx=>(x.shard,x.ptr)) s=some y.ptr:=by
 subst jr;exact agl h
theorem IJ{D:List kv}{K:List cZ}{s:Int}(jr:D.map nS=K)(h:jN K s=none):gz (D.map λx=>(x.shard,x.ptr)) s=none:=by
 subst jr;exact agm h
theorem tq{K:List cZ}{s:Int}(h:jN K s=none):pD K s=4/\iP K s=[]/\sE K s=false/\(∀f,oo K s f=K):=by
 unfold pD iP sE;rw[h];exact⟨rfl,rfl,rfl,λf=>agk h⟩
theorem xO{K:List cZ}{s:Int}{x:cZ}(h:jN K s=some x):pD K s=0/\iP K s=x.2.2/\sE K s=decide (x.2.2≠x.2.1):=by
 unfold pD iP sE;rw[h];exact⟨rfl,rfl,rfl⟩
theorem VP{ji eI u8:TypeId}{df:Nat}{life:Int}{K:List cZ}{s:Int}{x:cZ}(h:(hA (R:=R) ji eI u8 df life K).p F w)(ah:jN K s=some x):∃(D:List kv) (k:Nat) (y:kv) (e8:Nat),D.map nS=K/\D[k]?=some y/\nS y=x/\y.shard=s/\gz (D.map λx=>(x.shard,x.ptr)) s=some y.ptr /\
 (bl (R:=R) [ay df [.map (some e8),.int .i64 life] ji,lA fB nR e8 (D.map λx=>(x.shard,x.ptr)),bl ((D.take k).map (hz eI u8)),hz eI u8 y,bl ((D.drop (k+1)).map (hz eI u8))]).p F w:=by
 obtain⟨D,jr,e8,wC⟩:=h;obtain⟨k,y,h1,ag,aB,bE⟩:=Nd jr ah;refine⟨D,k,y,e8,jr,h1,ag,aB,bE,?_⟩;obtain⟨fh,g1,g2,g3⟩:=wC;have fF:=age (R:=R) (eI:=eI) (u8:=u8) h1 (fh 2) (g1 2 _ rfl)
 have:Sep (R:=R) [ay df [.map (some e8),.int .i64 life] ji,lA fB nR e8 (D.map λx=>(x.shard,x.ptr)),bl [bl ((D.take k).map (hz eI u8)),hz eI u8 y,bl ((D.drop (k+1)).map (hz eI u8))]] F w:=by
  refine⟨fh,λi A bg=>?_,g2,g3⟩
  match i,bg with
  | 0,bg=>exact g1 0 A bg
  | 1,bg=>exact g1 1 A bg
  | 2,bg =>
   simp only[List.getElem?_cons_succ,List.getElem?_cons_zero,Option.some.injEq] at bg
   subst bg
   exact fF
  | n+3,bg=>simp at bg
 exact Sep.open (L1:=[_,_]) this
theorem VQ{ji eI u8:TypeId}{df:Nat}{life:Int}{K:List cZ}{D:List kv}{k:Nat}{y:kv}{e8:Nat}{s:Int}{f:List UInt8->List UInt8}(jr:D.map nS=K)(eC:oJ K)(hk:D[k]?=some y)(A5:y.shard=s)
 (h:(bl (R:=R) [ay df [.map (some e8),.int .i64 life] ji,lA fB nR e8 (D.map λx=>(x.shard,x.ptr)),bl ((D.take k).map (hz eI u8)),hz eI u8 { y with now:=f y.e9 },bl ((D.drop (k+1)).map (hz eI u8))]).p F w):(hA (R:=R) ji eI u8 df life (oo K s f)).p F w:=by
 subst jr;subst A5;refine⟨D.set k { y with now:=f y.e9 },agn eC hk rfl,e8,?_⟩;have ag:Sep ([ay (R:=R) df [.map (some e8),.int .i64 life] ji,lA fB nR e8 (D.map λx=>(x.shard,x.ptr))]++[bl ((D.take k).map (hz eI u8)),hz eI u8 { y with now:=f y.e9 },bl ((D.drop (k+1)).map (hz eI u8))]) F w:=h;have aB:=ag.close;obtain⟨fh,g1,g2,g3⟩:=aB;refine⟨fh,λi A bg=>?_,g2,g3⟩
 match i,bg with
 | 0,bg=>exact g1 0 A bg
 | 1,bg =>
  rw[ago hk] at bg;exact g1 1 A bg
 | 2,bg =>
  simp only[List.getElem?_cons_succ,List.getElem?_cons_zero,Option.some.injEq] at bg;subst bg;exact agf (R:=R) (eI:=eI) (u8:=u8) hk (fh 2) (g1 2 _ rfl)
 | n+3,bg=>simp at bg
theorem VR{ji eI u8:TypeId}{df:Nat}{life:Int}{K:List cZ}(h:(hA (R:=R) ji eI u8 df life K).p F w):∃(D:List kv) (e8:Nat),D.map nS=K/\(bl (R:=R) [ay df [.map (some e8),.int .i64 life] ji,lA fB nR e8 (D.map λx=>(x.shard,x.ptr)),bl (D.map (hz eI u8))]).p F w:=by
 obtain⟨D,jr,e8,wC⟩:=h;exact⟨D,e8,jr,wC⟩
theorem agz{ji eI u8:TypeId}{df:Nat}{life:Int}{K:List cZ}{D:List kv}{e8:Nat}(jr:D.map nS=K)(h:(bl (R:=R) [ay df [.map (some e8),.int .i64 life] ji,lA fB nR e8 (D.map λx=>(x.shard,x.ptr)),bl (D.map (hz eI u8))]).p F w):(hA (R:=R) ji eI u8 df life K).p F w:=⟨D,jr,e8,h⟩
theorem agA{ji eI u8:TypeId}{df:Nat}{life:Int}{K:List cZ}{D:List kv}{e8:Nat}{y:kv}{s:Int}{vj:List UInt8}(jr:D.map nS=K)(aD:nS y=(s,vj,vj))
 (h:(bl (R:=R) [ay df [.map (some e8),.int .i64 life] ji,lA fB nR e8 ((D.map λx=>(x.shard,x.ptr))++[(s,y.ptr)]),bl (D.map (hz eI u8)),hz eI u8 y]).p F w):(hA (R:=R) ji eI u8 df life (K++[(s,vj,vj)])).p F w:=by
 have aT:y.shard=s:=congrArg Prod.fst aD;refine⟨D++[y],by rw[List.map_append,jr,List.map_singleton,aD],e8,?_⟩;have ag:Sep (R:=R) ([ay df [.map (some e8),.int .i64 life] ji,lA fB nR e8 ((D.map λx=>(x.shard,x.ptr))++[(s,y.ptr)])]++[bl (D.map (hz eI u8)),hz eI u8 y]) F w:=h;obtain⟨fh,g1,g2,g3⟩:=ag.close;refine⟨fh,λi A bg=>?_,g2,g3⟩
 match i,bg with
 | 0,bg=>exact g1 0 A bg
 | 1,bg =>
  rw[List.map_append,List.map_singleton,aT] at bg;exact g1 1 A bg
 | 2,bg =>
  simp only[List.getElem?_cons_succ,List.getElem?_cons_zero,Option.some.injEq] at bg;subst bg;have k:Sep (R:=R) [bl (D.map (hz eI u8)),hz eI u8 y] (fh 2) w:=g1 2 _ rfl;have cB:Sep (R:=R) [hz eI u8 y,bl (D.map (hz eI u8))] (fh 2) w:=Sep.A3 (A:=[bl (D.map (hz eI u8))]) (B:=[hz eI u8 y]) k;have dG:=(Sep.open (L1:=[hz (R:=R) eI u8 y]) cB);have g':=Sep.A3 (A:=[hz (R:=R) eI u8 y]) (B:=D.map (hz eI u8)) dG;show Sep (R:=R) ((D++[y]).map (hz eI u8)) (fh 2) w;rw[List.map_append,List.map_singleton];exact g'
 | n+3,bg=>simp at bg
theorem agB{ji eI u8:TypeId}{df e8:Nat}{life:Int}(h:(bl (R:=R) [ay df [.map (some e8),.int .i64 life] ji,lA fB nR e8 []]).p F w):(hA (R:=R) ji eI u8 df life []).p F w:=by
 refine⟨[],rfl,e8,?_⟩;obtain⟨fh,g1,g2,g3⟩:=h;refine⟨λi b=>fh i b/\i<2,λi A bg=>?_,λi b ab=>g2 i b ab.1,λi j b m' ar bn=>g3 i j b m' ar.1 bn.1⟩
 match i,bg with
 | 0,bg =>
  have:=g1 0 A bg;simpa using this
 | 1,bg =>
  have:=g1 1 A bg;simpa using this
 | 2,bg =>
  simp only[List.getElem?_cons_succ,List.getElem?_cons_zero,Option.some.injEq] at bg;subst bg;exact⟨λ_ _=>False,λi A h=>by simp at h,λ_ _ h=>h.elim,λ_ _ _ _ h=>h.elim⟩
 | n+3,bg=>simp at bg
theorem Nf{D:List kv}{s:Int}(h:∀x∈D,x.shard≠s):gz (D.map λx=>(x.shard,x.ptr)) s=none:=by
 rw[Na,List.find?_eq_none.2]
 . rfl
 . intro x ah;simpa using h x ah
end
section
variable {P:Program} {E:Env} {C:World->Prop} {d:Option Tmp} {ty:TypeId} {pos:String} {af:Array Edge} {gd:Option (Nat×Bool)} {α β:Type} [DecidableEq α] {key:α->Value} {val:β->Value}
theorem bz.Fb{t e4 jo:TypeId}{x y:Operand}{b:Nat}{m:List (α×β)}{a:α}{z:Value}{u:β}(hk:KeyOk P e4 key)(a8:P.underlying t=some (.map e4 jo))(cS:∀w,(zeroValue jo).run P w=.ok z w)(ah:aP E x=some (.map (some b)))(aD:aP E y=some (key a))(hm:∀w,C w->nk key val w b m)(ax:gz m a=some u):
 bz P ⟨d,.lookup t x y false,ty,pos,af,gd⟩ E C (val u):=by
 have h:=bz.Tj (d:=d) (ty:=ty) (pos:=pos) (af:=af) (gd:=gd) (val:=val) hk a8 cS ah aD hm;rw[ax] at h;exact h
theorem bz.VS{t e4 jo:TypeId}{x y:Operand}{b:Nat}{m:List (α×β)}{a:α}{z:Value}(hk:KeyOk P e4 key)(a8:P.underlying t=some (.map e4 jo))(cS:∀w,(zeroValue jo).run P w=.ok z w)(ah:aP E x=some (.map (some b)))(aD:aP E y=some (key a))(hm:∀w,C w->nk key val w b m)(ax:gz m a=none):
 bz P ⟨d,.lookup t x y false,ty,pos,af,gd⟩ E C z:=by
 have h:=bz.Tj (d:=d) (ty:=ty) (pos:=pos) (af:=af) (gd:=gd) (val:=val) hk a8 cS ah aD hm;rw[ax] at h;exact h
end
end Go.aF
namespace Go.aF
open Go Go.ak
section
variable {P:Program} {E:Env} {C:World->Prop} {d:Option Tmp} {ty:TypeId} {pos:String} {af:Array Edge} {gd:Option (Nat×Bool)}
theorem bz.IK{t e:TypeId}{n sz by_ b off:Nat}{g:Bool}{z:List Value}{x y:Operand}{k:IntKind}{m:Int}(a8:P.underlying t=some (.array n e))(he:eu P e=some (g,sz,by_,z))(ah:aP E x=some (ptr b off))(aD:aP E y=some (.int k m))(i:Nat)(hm:m=(i:Int))(ar:i<n):
 bz P ⟨d,.indexAddr t x y,ty,pos,af,gd⟩ E C (ptr b (off+i*sz)):=
 bz.indexAddr ah aD λw=>by
  have bH:(0:Int)<=m/\m<(n:Int):=by omega
  have fV:m.toNat=i:=by omega
  simp[Instr.indexAt,asIntOf,run_underlying a8,bH,run_sizeOf he,add_lit,ptr,fV,Instr.sureAddr]
end
def uq(x:Int×Int):List Value:=[.int .i64 x.1,.int .i64 x.2]
theorem Fc(x:Int×Int):(uq x).length=2:=rfl
theorem agC(x:Int×Int):(uq x).all (·.oneCell')=true:=rfl
def tr(w:World)(F:Nat->Prop)(bm:List c8)(N:List k2):Prop:=c4 (λr n=>r.fin=n.1/\aq uq w F r.e.val n.2) bm N
theorem tr.keep{M:Nat->Prop}{w an:World}{F:Nat->Prop}{bm:List c8}{N:List k2}(h:tr w F bm N)(hm:Mod M w an)(br:∀b,F b->¬ M b):tr an F bm N:=
 c4.imp (λ_ _ k=>⟨k.1,k.2.keep hm br⟩) h
theorem tr.mono{w:World}{F F':Nat->Prop}{bm:List c8}{N:List k2}(h:tr w F bm N)(br:∀b,F b->F' b):tr w F' bm N:=
 c4.imp (λ_ _ k=>⟨k.1,k.2.mono br⟩) h
theorem tr.at{w:World}{F:Nat->Prop}{bm:List c8}{N:List k2}(h:tr w F bm N){i:Nat}{r:c8}(a':bm[i]?=some r):∃n,N[i]?=some n/\r.fin=n.1/\aq uq w F r.e.val n.2:=by
 obtain⟨h1,ag⟩:=c4.get h;have ar:=(List.getElem?_eq_some_iff.1 a').1;exact⟨_,List.getElem?_eq_getElem aa,ag i r _ a' (List.getElem?_eq_getElem aa)⟩
def r0{R:Nat->Prop}(bm:List c8)(N:List k2):dq R:=⟨λF w=>tr w F bm N,λh hm br _=>h.keep hm br⟩
theorem VT{R F:Nat->Prop}{w:World}{e:TypeId}{bm:List c8}{N:List k2}{x:c8}{n:k2}{v:Value}{es:List (Int×Int)}(cN:v=x.e.val)(bC:x.fin=n.1)(aN:es=n.2)(h:(bl (R:=R) [r0 bm N,aS uq e 2 v es]).p F w):(r0 (R:=R) (bm++[x]) (N++[n])).p F w:=by
 obtain⟨fr,bw,h1,ag,aB,bE⟩:=vd h;exact c4.app (tr.mono h1 aB) (.cons ⟨bC,cN▸aN▸(tn ag).mono bE⟩ .nil)
theorem au.agD{R bV:Nat->Prop}{w0 w:World}{L:List (dq R)}{i:Nat}{bm:List c8}{N:List k2}(h:au R bV w0 w L)(ar:L[i]?=some (r0 bm N)):tr w (dr 0 w.heap.size) bm N:=by
 obtain⟨F,h1,ag⟩:=h.get ar;exact tr.mono h1 λb ab=>⟨Nat.zero_le _,ag b ab⟩
def Ng{R:Nat->Prop}(k1 MG:TypeId)(b:Nat)(fin:Bool)(es:List (Int×Int)):dq R:=nN λv:Value=>bl [ay b [.bool fin,v] k1,aS uq MG 2 v es]
end Go.aF
namespace Go.ak
open Go.aF
theorem agE{b:List UInt8}(h:b.length<4):false=nn b:=by unfold nn;exact(decide_eq_false λk=>k.1 h).symm
theorem agF{b:List UInt8}(h:nn b=true):4<=b.length:=by unfold nn at h;have:=(of_decide_eq_true h).1;omega
theorem agG{b:List UInt8}{r:Bool}(h:¬ b.length<4)(a':r=(j' b ((b.length:Int)-4) 4==(kE (b.take (b.length-4)):Int))):r=nn b:=by
 unfold nn;rw[a'];by_cases k:j' b ((b.length:Int)-4) 4=(kE (b.take (b.length-4)):Int)
 . rw[beq_iff_eq.2 k];exact(decide_eq_true ⟨h,k⟩).symm
 . rw[beq_eq_false_iff_ne.2 k];exact(decide_eq_false λq=>k q.2).symm
def pG(b:List UInt8)(c:Nat)(dD:Int×Bool)(z:Nat)(es:List (Int×Int))(s:Int×Bool):Prop:=pC b c dD=(es++(pC b z s).1,(pC b z s).2)
theorem pG.start(b:List UInt8)(c:Nat)(s:Int×Bool):pG b c s c [] s:=by unfold pG;simp
theorem pG.step{b:List UInt8}{c z:Nat}{dD:Int×Bool}{a:Int}{es:List (Int×Int)}{e:Int×Int}{j0:Int×Bool}(h:pG b c dD (z+1) es (a,false))(he:y_ b (a,false)=(e,j0)):pG b c dD z (es++[e]) j0:=by
 unfold pG at *;rw[h]
 conv=>lhs;unfold pC
 rw[if_neg di,he];simp
theorem agH{b:List UInt8}{s:Int×Bool}(h:s.2=true):∀n,pC b n s=([],s)
 | 0=>rfl
 | n+1=>by unfold pC;rw[if_pos h]
theorem pG.bad{b:List UInt8}{c z:Nat}{dD:Int×Bool}{a:Int}{es:List (Int×Int)}(h:pG b c dD z es (a,true)):pC b c dD=(es,(a,true)):=by
 unfold pG at h;rw[h,agH rfl];simp
theorem pG.fin{b:List UInt8}{c:Nat}{dD:Int×Bool}{es:List (Int×Int)}{s:Int×Bool}(h:pG b c dD 0 es s):pC b c dD=(es,s):=by
 unfold pG at h;rw[h];simp[pC]
def r1(b:List UInt8)(c:Nat)(dD:Int×Bool)(i:Nat)(N:List k2)(s:Int×Bool):Prop:=lj b c dD=(N++(lj b (c-i) s).1,(lj b (c-i) s).2)
theorem r1.start(b:List UInt8)(c:Nat)(s:Int×Bool):r1 b c s 0 [] s:=by unfold r1;simp
theorem r1.step{b:List UInt8}{c i:Nat}{dD:Int×Bool}{a:Int}{N:List k2}{e:k2}{j0:Int×Bool}(h:r1 b c dD i N (a,false))(ar:i<c)(he:y' b (a,false)=(e,j0)):r1 b c dD (i+1) (N++[e]) j0:=by
 unfold r1 at *;rw[h];obtain⟨k,hk⟩:∃k,c-i=k+1:=⟨c-i-1,by omega⟩;rw[hk,show c-(i+1)=k from by omega]
 conv=>lhs;unfold lj
 rw[if_neg di,he];simp
theorem agI{b:List UInt8}{s:Int×Bool}(h:s.2=true):∀n,lj b n s=([],s)
 | 0=>rfl
 | n+1=>by unfold lj;rw[if_pos h]
theorem r1.bad{b:List UInt8}{c i:Nat}{dD:Int×Bool}{a:Int}{N:List k2}(h:r1 b c dD i N (a,true)):lj b c dD=(N,(a,true)):=by
 unfold r1 at h;rw[h,agI rfl];simp
theorem r1.fin{b:List UInt8}{c i:Nat}{dD:Int×Bool}{N:List k2}{s:Int×Bool}(h:r1 b c dD i N s)(ar:c<=i):lj b c dD=(N,s):=by
 unfold r1 at h;rw[h,show c-i=0 from by omega];simp[lj]
theorem agJ{b:List UInt8}{a h9 a2 cj bO:Int}{q d' q2:Bool}(h1:(cj,(h9,d'))=ea b 4 (a,q))(ag:(bO,(a2,q2))=ea b 2 (h9,d')):y_ b (a,q)=((cj,bO),(a2,q2)):=by
 unfold y_;rw[<-h1];dsimp only;rw[<-ag]
theorem VU{b:List UInt8}{a h9 a2 a3 cj bO:Int}{q d' q2 fF:Bool}{es:List (Int×Int)}(h1:(cj,(h9,d'))=ea b 1 (a,q))(ag:(bO,(a2,q2))=ea b 2 (h9,d'))(aB:pC b bO.toNat (a2,q2)=(es,(a3,fF))){f:Bool}(bC:f=decide (cj=1)):y' b (a,q)=((f,es),(a3,fF)):=by
 unfold y';rw[<-h1];dsimp only;rw[<-ag];dsimp only;rw[aB,bC]
theorem IL{N:List k2}{f:Nat}{n d:Int}{a:aj}{out:List aj}(h:n<0\/n>=N.length\/d>12\/out.length>60):ij N (f+1) n d a out=(out,false):=by unfold ij;rw[if_pos h]
theorem agK{N:List k2}{f:Nat}{n d:Int}{a:aj}{out:List aj}{x:k2}(h:¬ (n<0\/n>=N.length\/d>12\/out.length>60))(ah:N[n.toNat]?=some x):ij N (f+1) n d a out=pb (λout e=>ij N f e.2 (d+1) (a++fE e.1) out) (if x.1=true then out++[a] else out) x.2:=by
 conv=>lhs;unfold ij
 rw[if_neg h,ah]
theorem zc(g:List aj->Int×Int->List aj×Bool)(out:List aj){l:List (Int×Int)}{k:Nat}(hk:l.length<=k):pb g out (l.drop k)=(out,true):=by
 rw[List.drop_of_length_le hk];rfl
theorem Nh{α:Type}{l:List α}{k:Nat}{x:α}(ah:l[k]?=some x):l.drop k=x::l.drop (k+1):=by
 obtain⟨h,rfl⟩:=List.getElem?_eq_some_iff.1 ah;exact List.drop_eq_getElem_cons h
theorem zd{g:List aj->Int×Int->List aj×Bool}{out:List aj}{l:List (Int×Int)}{k:Nat}{e:Int×Int}(ah:l[k]?=some e)(h:e.1>1114111):pb g out (l.drop k)=(out,false):=by
 rw[Nh ah];unfold pb;rw[if_pos h]
theorem ze{g:List aj->Int×Int->List aj×Bool}{out:List aj}{l:List (Int×Int)}{k:Nat}{e:Int×Int}(ah:l[k]?=some e)(h:¬ e.1>1114111)(ag:(g out e).2=false\/(g out e).1.length=out.length):pb g out (l.drop k)=((g out e).1,false):=by
 rw[Nh ah];unfold pb;rw[if_neg h,if_pos ag]
theorem agL{g:List aj->Int×Int->List aj×Bool}{out:List aj}{l:List (Int×Int)}{k:Nat}{e:Int×Int}(ah:l[k]?=some e)(h:¬ e.1>1114111)(ag:¬ ((g out e).2=false\/(g out e).1.length=out.length)):pb g out (l.drop k)=pb g (g out e).1 (l.drop (k+1)):=by
 rw[Nh ah];conv=>lhs;unfold pb
 rw[if_neg h,if_neg ag]
def IM(N:List k2):Prop:=N.length<=65536/\∀x∈N,x.2.length<=65536/\∀e∈x.2,0<=e.1/\e.1<=4294967295/\0<=e.2/\e.2<=65535
theorem VV{N:List k2}(h:IM N)(bk:N.length<65536){f:Bool}{es:List (Int×Int)}(he:es.length<=65536/\∀e∈es,0<=e.1/\e.1<=4294967295/\0<=e.2/\e.2<=65535):IM (N++[(f,es)]):=by
 refine⟨by rw[List.length_append];simp only[List.length_cons,List.length_nil];omega,λx ah=>?_⟩;rcases List.mem_append.1 ah with ah|ah
 . exact h.2 x ah
 . rw[List.mem_singleton] at ah;subst ah;exact he
theorem VW{b:List UInt8}(h:(iv b).1≠[]):(h4 b).2=0:=by
 have h1:=(CT b).1;by_cases ag:(iv b).2=0
 . exact h1.symm.trans ag
 . exact absurd (afS ag) h
theorem Ni{b:List UInt8}(h:(iv b).1≠[]):e7 (h4 b).1=0/\(iv b).1=h7 (h4 b).1:=
 (CT b).2 ((CT b).1.trans (VW h))
end Go.ak
namespace Go.ak
open Go.aF
def nT(q:List Int)(f:Nat->Int)(r:Int):Nat->Int
 | 0=>f 0+1
 | i+1=>min (min (f (i+1)+1) (nT q f r i+1)) (f i+if q[i]?=some r then 0 else 1)
def hS(q:List Int)(p:List Int):Nat->Int:=p.foldl (nT q) λi=>(i:Int)
theorem IN(q p:List Int)(r:Int):hS q (p++[r])=nT q (hS q p) r:=by unfold hS;rw[List.foldl_append];rfl
def vk(q p:List Int):Int:=hS q p q.length
structure p_(f:Nat->Int):Prop where
 pos:∀i,0<=f i
 one:∀i,f (i+1)<=f i+1/\f i<=f (i+1)+1
theorem agM{q:List Int}{f:Nat->Int}{r:Int}(h:p_ f):∀i,nT q f r i<=f i+1
 | 0=>Int.le_refl _
 | i+1=>by unfold nT;omega
theorem step_pos{q:List Int}{f:Nat->Int}{r:Int}(h:p_ f):∀i,0<=nT q f r i
 | 0=>by have:=h.pos 0;unfold nT;omega
 | i+1=>by
  have h1:=h.pos (i+1);have ag:=h.pos i;have aB:=step_pos (q:=q) (r:=r) h i
  unfold nT;split<;>omega
theorem p_.step {q : List Int} {f : Nat → Int} {r : Int} (h : p_ f) : p_ (nT q f r) := by
  refine ⟨step_pos h, fun i => ⟨by conv => lhs; unfold nT
                                   omega, ?_⟩⟩
  have h1 := agM (q := q) (r := r) h i;have ag := h.one i;show nT q f r i ≤ (min (min (f (i + 1) + 1) (nT q f r i + 1)) (f i + if q[i]? = some r then 0 else 1)) + 1;split <;> omega
theorem p_.id:p_ λi=>(i:Int):=⟨λi=>by omega,λi=>by constructor<;>omega⟩
theorem VX(q:List Int):∀p:List Int,p_ (hS q p):=by
 intro p;unfold hS
 have:∀(p:List Int) (f:Nat->Int),p_ f->p_ (p.foldl (nT q) f):=by
  intro p
  induction p with
  | nil=>intro f h;exact h
  | cons r p cc=>intro f h;exact cc _ h.step
 exact this p _ p_.id
theorem Nj{f:Nat->Int}(h:p_ f):∀(i d:Nat),f (i+d)<=f i+d/\f i<=f (i+d)+d
 | i,0=>by simp
 | i,d+1=>by
  have h1:=Nj h i d
  have ag:=h.one (i+d)
  rw[show i+(d+1)=i+d+1 from by omega]
  omega
theorem IP{f:Nat->Int}(h:p_ f)(i j:Nat):f i<=f j+max ((i:Int)-j) ((j:Int)-i):=by
 rcases Nat.le_total i j with m'|m'
 . have:=(Nj h i (j-i)).2;rw[show i+(j-i)=j from by omega] at this;omega
 . have:=(Nj h j (i-j)).1;rw[show j+(i-j)=i from by omega] at this;omega
def jP(k:Int)(f:Nat->Int)(i:Nat):Int:=min (f i) (k+1)
theorem p_.cap{f:Nat->Int}{k:Int}(hk:0<=k)(h:p_ f):p_ (jP k f):=⟨λi=>by have:=h.pos i;unfold jP;omega,λi=>by have:=h.one i;unfold jP;omega⟩
def fJ(k:Int)(q:List Int)(f:Nat->Int)(r:Int):Nat->Int
 | 0=>min (f 0+1) (k+1)
 | i+1=>min (min (min (f (i+1)+1) (fJ k q f r i+1)) (f i+if q[i]?=some r then 0 else 1)) (k+1)
theorem VY(k:Int)(q:List Int)(f:Nat->Int)(r:Int):∀i,fJ k q (jP k f) r i=jP k (nT q f r) i
 | 0=>by unfold fJ jP nT;omega
 | i+1=>by
  have cc:=VY k q f r i
  show min (min (min (jP k f (i+1)+1) (fJ k q (jP k f) r i+1)) (jP k f i+if q[i]?=some r then 0 else 1)) (k+1)=min (min (min (f (i+1)+1) (nT q f r i+1)) (f i+if q[i]?=some r then 0 else 1)) (k+1)
  rw[cc]
  unfold jP
  split<;>omega
structure Pos where
 at_:Int
 cq:Int
deriving DecidableEq
def nr(n:Nat)(k:Int)(f:Nat->Int)(j:Nat):Bool:=(List.range n).any λ(i:Nat)=>decide (f i<f j) && decide (max ((i:Int)-(j:Int)) ((j:Int)-(i:Int))<=f j-f i)
def fQ(n:Nat)(k:Int)(f:Nat->Int):List Pos:=((List.range n).filter λ(j:Nat)=>decide (f j<=k) && !nr n k f j).map λ(j:Nat)=>Pos.mk (j:Int) (f j)
def dY(n:Nat)(k:Int)(s:List Pos)(i:Nat):Int:=s.foldl (λ(a:Int) (p:Pos)=>if (0<=p.at_/\p.at_<=(n:Int)/\0<=p.cq/\p.cq<=k)/\max ((i:Int)-p.at_) (p.at_-(i:Int))<=k then min a (p.cq+max ((i:Int)-p.at_) (p.at_-(i:Int))) else a) (k+1)
theorem IQ{α:Type}(g:α->Option Int):∀(l:List α) (a:Int),l.foldl (λa p=>match g p with|some x=>min a x|none=>a) a<=a
 | [],a=>Int.le_refl _
 | p::l,a=>by
  rw[List.foldl_cons]
  have:=IQ g l (match g p with|some x=>min a x|none=>a)
  cases h:g p with
  | none=>rw[h] at this;exact this
  | some x=>rw[h] at this;simp only at this ⊢;omega
theorem VZ{α:Type}(g:α->Option Int):∀(l:List α) (a x:Int) (p:α),p∈l->g p=some x->l.foldl (λa p=>match g p with|some x=>min a x|none=>a) a<=x
 | q::l,a,x,p,hp,ah=>by
  rw[List.foldl_cons]
  rcases List.mem_cons.1 hp with rfl|hp
  . have:=IQ g l (match g p with|some x=>min a x|none=>a)
    rw[ah] at this ⊢;simp only at this ⊢;omega
  . exact VZ g l _ x p hp ah
theorem Nk{α:Type}(g:α->Option Int)(m:Int):∀(l:List α) (a:Int),m<=a->(∀p∈l,∀x,g p=some x->m<=x)->m<=l.foldl (λa p=>match g p with|some x=>min a x|none=>a) a
 | [],a,h,_=>h
 | p::l,a,h,bk=>by
  rw[List.foldl_cons]
  refine Nk g m l _ ?_ λq dB=>bk q (by simp[dB])
  cases aU:g p with
  | none=>exact h
  | some x=>have:=bk p di x aU;simp only;omega
def xP(n:Nat)(k:Int)(i:Nat)(p:Pos):Option Int:=if (0<=p.at_/\p.at_<=(n:Int)/\0<=p.cq/\p.cq<=k)/\max ((i:Int)-p.at_) (p.at_-(i:Int))<=k then some (p.cq+max ((i:Int)-p.at_) (p.at_-(i:Int))) else none
theorem V0(n:Nat)(k:Int)(s:List Pos)(i:Nat):dY n k s i=s.foldl (λa p=>match xP n k i p with|some x=>min a x|none=>a) (k+1):=by
 unfold dY;congr 1
 funext a p;unfold xP;split<;>rfl
theorem V1{n:Nat}{k:Int}{f:Nat->Int}{p:Pos}:p∈fQ n k f↔∃j,j<n/\f j<=k/\nr n k f j=false/\p=⟨(j:Int),f j⟩:=by
 unfold fQ;simp only[List.mem_map,List.mem_filter,List.mem_range,Bool.and_eq_true,decide_eq_true_eq,Bool.not_eq_true'];constructor
 . rintro⟨j,⟨h1,ag,aB⟩,rfl⟩;exact⟨j,h1,ag,aB,rfl⟩
 . rintro⟨j,h1,ag,aB,rfl⟩;exact⟨j,⟨h1,ag,aB⟩,rfl⟩
theorem V2{n:Nat}{k:Int}{f:Nat->Int}(h:p_ f):∀(m i:Nat),f i<=m->i<n->∃j,j<n/\nr n k f j=false/\f j+max ((i:Int)-j) ((j:Int)-i)=f i
 | 0,i,hm,ar=>by
  refine⟨i,ar,?_,by omega⟩
  unfold nr
  rw[List.any_eq_false]
  intro j bn
  have:=h.pos j
  simp only[Bool.and_eq_true,decide_eq_true_eq,not_and]
  intro hN;omega
 | m+1,i,hm,ar=>by
  by_cases bk:nr n k f i=true
  . unfold nr at bk
    rw[List.any_eq_true] at bk
    obtain⟨j,bn,al⟩:=bk
    simp only[Bool.and_eq_true,decide_eq_true_eq] at al
    have agN:=List.mem_range.1 bn
    have h1:=IP h i j
    obtain⟨t,a8,Fe,ar_⟩:=V2 (k:=k) h m j aa agN
    refine⟨t,a8,Fe,?_⟩
    have ag:=IP h i t
    omega
  . exact⟨i,ar,by simpa using bk,by omega⟩
theorem agO{n:Nat}{k:Int}{f:Nat->Int}(hk:0<=k)(h:p_ f){i:Nat}(ar:i<n+1):dY n k (fQ (n+1) k f) i=jP k f i:=by
 rw[V0]
 have yF:jP k f i<=(fQ (n+1) k f).foldl (λa p=>match xP n k i p with|some x=>min a x|none=>a) (k+1):=by
  refine Nk _ _ _ _ (by unfold jP;omega) λp hp x ah=>?_
  obtain⟨j,h1,ag,aB,rfl⟩:=V1.1 hp
  unfold xP at ah
  split at ah
  . cases ah
    have:=IP h i j
    unfold jP;simp only;omega
  . cases ah
 have hle:(fQ (n+1) k f).foldl (λa p=>match xP n k i p with|some x=>min a x|none=>a) (k+1)<=jP k f i:=by
  by_cases al:f i<=k
  . obtain⟨j,h1,ag,aB⟩:=V2 (n:=n+1) (k:=k) h (f i).toNat i aa ar
    have hp:=h.pos j
    have:=VZ (xP n k i) (fQ (n+1) k f) (k+1) (f i) ⟨(j:Int),f j⟩ (V1.2 ⟨j,h1,by omega,ag,rfl⟩) (by
     unfold xP
     rw[if_pos (by simp only;omega)]
     simp only
     rw[aB])
    unfold jP;omega
  . have:=IQ (xP n k i) (fQ (n+1) k f) (k+1)
    unfold jP;omega
 omega
theorem agP{n:Nat}{k:Int}(f:Nat->Int):fQ n k (jP k f)=fQ n k f:=by
 unfold fQ
 have bC:∀j,(decide (jP k f j<=k) && !nr n k (jP k f) j)=(decide (f j<=k) && !nr n k f j):=by
  intro j
  by_cases bn:f j<=k
  . have fV:jP k f j=f j:=by unfold jP;omega
    have je:nr n k (jP k f) j=nr n k f j:=by
     unfold nr
     refine List.any_congr rfl λi=>?_
     rw[fV]
     by_cases ar:f i<=k
     . rw[show jP k f i=f i from by unfold jP;omega]
     . rw[show decide (jP k f i<f j)=false from decide_eq_false (by unfold jP;omega),show decide (f i<f j)=false from decide_eq_false aa,Bool.false_and,Bool.false_and]
    rw[fV,je]
  . rw[show decide (jP k f j<=k)=false from decide_eq_false (by unfold jP;omega),show decide (f j<=k)=false from decide_eq_false bn]
    rfl
 rw[List.filter_congr λj _=>bC j];refine List.map_congr_left λj bn=>?_
 have:=(List.mem_filter.1 bn).2;simp only[Bool.and_eq_true,decide_eq_true_eq] at this;rw[show jP k f j=f j from by unfold jP;omega]
def fu(q:List Int)(k:Int)(p:List Int):List Pos:=fQ (q.length+1) k (hS q p)
theorem Ff{q:List Int}{k:Int}(hk:0<=k)(p:List Int){i:Nat}(ar:i<q.length+1):dY q.length k (fu q k p) i=jP k (hS q p) i:=agO hk (VX q p) ar
theorem agQ{q:List Int}{k:Int}(hk:0<=k):fu q k []=[⟨0,0⟩]:=by
 unfold fu fQ
 have bC:∀j∈List.range (q.length+1),(decide (hS q [] j<=k) && !nr (q.length+1) k (hS q []) j)=decide (j=0):=by
  intro j bn
  by_cases bH:j=0
  . subst bH
    have:nr (q.length+1) k (hS q []) 0=false:=by
     unfold nr
     rw[List.any_eq_false]
     intro i ar
     simp only[Bool.and_eq_true,decide_eq_true_eq,not_and]
     intro hN
     have:(i:Int)<((0:Nat):Int):=hN
     omega
    rw[this]
    have:hS q [] 0=0:=rfl
    rw[this]
    simp[hk]
  . have:nr (q.length+1) k (hS q []) j=true:=by
     unfold nr
     rw[List.any_eq_true]
     refine⟨0,by simp,?_⟩
     simp only[Bool.and_eq_true,decide_eq_true_eq]
     have j_:hS q [] 0=0:=rfl
     have agR:hS q [] j=(j:Int):=rfl
     rw[j_,agR]
     omega
    rw[this]
    simp[bH]
 rw[List.filter_congr bC]
 have:(List.range (q.length+1)).filter (λj=>decide (j=0))=[0]:=by
  rw[List.range_succ_eq_map,List.filter_cons_of_pos di]
  congr 1
  rw[List.filter_eq_nil_iff]
  intro a ax
  obtain⟨b,_,rfl⟩:=List.mem_map.1 ax
  simp
 rw[this];rfl
theorem V3{q:List Int}{k:Int}(hk:0<=k)(p:List Int)(r:Int):fQ (q.length+1) k (fJ k q (dY q.length k (fu q k p)) r)=fu q k (p++[r]):=by
 unfold fu;rw[IN,<-agP (nT q (hS q p) r)]
 have al:∀i,i<q.length+1->fJ k q (dY q.length k (fu q k p)) r i=jP k (nT q (hS q p) r) i:=by
  intro i ar
  rw[<-VY]
  have:∀i,i<q.length+1->fJ k q (dY q.length k (fu q k p)) r i=fJ k q (jP k (hS q p)) r i:=by
   intro i
   induction i with
   | zero=>intro ar;unfold fJ;rw[Ff hk p ar]
   | succ i cc =>
    intro ar
    show min (min (min (dY q.length k (fu q k p) (i+1)+1) (fJ k q (dY q.length k (fu q k p)) r i+1)) (dY q.length k (fu q k p) i+if q[i]?=some r then 0 else 1)) (k+1)=min (min (min (jP k (hS q p) (i+1)+1) (fJ k q (jP k (hS q p)) r i+1)) (jP k (hS q p) i+if q[i]?=some r then 0 else 1)) (k+1)
    rw[cc aa,Ff hk p ar,Ff hk p (by omega:i<q.length+1)]
  exact this i ar
 exact agS al
where
 agS {n:Nat} {k:Int} {f g:Nat->Int} (h:∀i,i<n->f i=g i):fQ n k f=fQ n k g:=by
  unfold fQ
  have bk:∀j,j<n->nr n k f j=nr n k g j:=by
   intro j bn
   unfold nr
   rw[Bool.eq_iff_iff,List.any_eq_true,List.any_eq_true]
   constructor
   . rintro⟨i,ar,al⟩
     refine⟨i,ar,?_⟩
     rw[<-h i (List.mem_range.1 ar),<-h j bn];exact al
   . rintro⟨i,ar,al⟩
     refine⟨i,ar,?_⟩
     rw[h i (List.mem_range.1 ar),h j bn];exact al
  rw[List.filter_congr λj bn=>by rw[h j (List.mem_range.1 bn),bk j (List.mem_range.1 bn)]]
  refine List.map_congr_left λj bn=>?_
  have:=List.mem_range.1 (List.mem_filter.1 bn).1
  rw[h j this]
theorem V4{q:List Int}{f:Nat->Int}{r m:Int}(h:∀i,i<q.length+1->m<=f i):∀i,i<q.length+1->m<=nT q f r i
 | 0,ar=>by have:=h 0 ar;unfold nT;omega
 | i+1,ar=>by
  have h1:=h (i+1) ar;have ag:=h i aa;have aB:=V4 (r:=r) h i aa
  unfold nT;split<;>omega
theorem agT{q:List Int}{k:Int}(hk:0<=k){p:List Int}(h:fu q k p=[]):∀i,i<q.length+1->k+1<=hS q p i:=by
 intro i ar;have:=Ff hk p ar;rw[h] at this;have e:dY q.length k [] i=k+1:=rfl;rw[e] at this;unfold jP at this;omega
theorem agU{q:List Int}{k:Int}{p:List Int}(h:∀i,i<q.length+1->k+1<=hS q p i):∀(u:List Int),k+1<=vk q (p++u):=by
 have key:∀(u p:List Int),(∀i,i<q.length+1->k+1<=hS q p i)->∀i,i<q.length+1->k+1<=hS q (p++u) i:=by
  intro u
  induction u with
  | nil=>intro p h;simpa using h
  | cons r u cc =>
   intro p h
   have:=cc (p++[r]) (by rw[IN];exact V4 h)
   rw[List.append_assoc] at this
   exact this
 intro u;exact key u p h q.length aa
theorem agV{q:List Int}{k:Int}(hk:0<=k)(p:List Int):dY q.length k (fu q k p) q.length=min (vk q p) (k+1):=Ff hk p aa
end Go.ak
namespace Go.ak
open Go.aF
def lC(x:Pos):List Value:=[.int .i64 x.at_,.int .i64 x.cq]
theorem V5(x:Pos):(lC x).length=2:=rfl
theorem agW(x:Pos):(lC x).all (·.oneCell')=true:=rfl
def gv(n:Nat)(f:Nat->Int):List Int:=(List.range (n+1)).map f
theorem xQ(n:Nat)(f:Nat->Int):(gv n f).length=n+1:=by simp[gv]
theorem pc{n:Nat}{f:Nat->Int}{i:Nat}{x:Int}(h:(gv n f)[i]?=some x):x=f i/\i<n+1:=by
 obtain⟨ar,h1⟩:=List.getElem?_eq_some_iff.1 h;rw[xQ] at ar;unfold gv at h;rw[List.getElem?_map,List.getElem?_range ar] at h;exact⟨by simpa using h.symm,ar⟩
theorem Fg{n:Nat}{f g:Nat->Int}(h:∀i,i<n+1->f i=g i):gv n f=gv n g:=by
 unfold gv;exact List.map_congr_left λi ar=>h i (List.mem_range.1 ar)
theorem IS{n:Nat}{f g:Nat->Int}{i:Nat}{x:Int}(ar:i<n+1)(ah:x=g i)(h:∀j,j<n+1->j≠i->f j=g j):(gv n f).set i x=gv n g:=by
 refine List.ext_getElem? λj=>?_
 unfold gv;rw[List.getElem?_set];split
 . rename_i e;subst e;rw[if_pos (by simp;exact ar),List.getElem?_map,List.getElem?_range ar,ah];rfl
 . rename_i dL;by_cases bn:j<n+1
   . rw[List.getElem?_map,List.getElem?_map,List.getElem?_range bn];simp[h j bn (λe=>dL e.symm)]
   . rw[List.getElem?_eq_none (by simp;omega),List.getElem?_eq_none (by simp;omega)]
theorem agX(n:Nat)(k:Int):List.replicate (n+1) (0:Int)=gv n λj=>if j<0 then k+1 else 0:=by
 refine List.ext_getElem (by simp[gv]) λi h1 ag=>?_
 simp[gv]
theorem agY{n i:Nat}{k:Int}{l:List Int}(h:l=gv n λj=>if j<i then k+1 else 0)(ar:i<n+1):l.set i (k+1)=gv n λj=>if j<i+1 then k+1 else 0:=by
 rw[h];refine IS ar di λj bn dL=>?_
 by_cases i6:j<i
 . rw[if_pos i6,if_pos aa]
 . rw[if_neg i6,if_neg aa]
theorem agZ{n i:Nat}{k:Int}{l:List Int}(h:l=gv n λj=>if j<i then k+1 else 0)(ar:n+1<=i):l=gv n (dY n k []):=by
 rw[h];refine Fg λj bn=>?_
 rw[if_pos aa];rfl
theorem ag0(n:Nat)(k:Int)(s:List Pos)(p:Pos)(x:Nat):dY n k (s++[p]) x=if (0<=p.at_/\p.at_<=(n:Int)/\0<=p.cq/\p.cq<=k)/\max ((x:Int)-p.at_) (p.at_-(x:Int))<=k then min (dY n k s x) (p.cq+max ((x:Int)-p.at_) (p.at_-(x:Int))) else dY n k s x:=by
 unfold dY;rw[List.foldl_append];rfl
theorem IT{n:Nat}{k:Int}{s:List Pos}{j:Nat}{p:Pos}(hp:s[j]?=some p)(x:Nat):dY n k (s.take (j+1)) x=if (0<=p.at_/\p.at_<=(n:Int)/\0<=p.cq/\p.cq<=k)/\max ((x:Int)-p.at_) (p.at_-(x:Int))<=k then min (dY n k (s.take j) x) (p.cq+max ((x:Int)-p.at_) (p.at_-(x:Int))) else dY n k (s.take j) x:=by
 rw[List.take_add_one,hp];exact ag0 n k _ p x
def ts(n:Nat)(k:Int)(s:List Pos)(j:Nat)(i:Int)(x:Nat):Int:=if (x:Int)<i then dY n k (s.take (j+1)) x else dY n k (s.take j) x
theorem ag1{n:Nat}{k:Int}{s:List Pos}{j:Nat}{p:Pos}(hp:s[j]?=some p)(h:p.at_<0\/p.at_>(n:Int)\/p.cq<0\/p.cq>k):gv n (dY n k (s.take j))=gv n (dY n k (s.take (j+1))):=by
 refine Fg λx _=>?_
 rw[IT hp,if_neg aa]
theorem ag2{n:Nat}{k:Int}{s:List Pos}{j:Nat}{p:Pos}(hp:s[j]?=some p){i:Int}(ar:i=max (p.at_-k) 0):gv n (dY n k (s.take j))=gv n (ts n k s j i):=by
 refine Fg λx _=>?_
 unfold ts;split
 . rw[IT hp,if_neg aa]
 . rfl
theorem ag3{n:Nat}{k:Int}{s:List Pos}{j:Nat}{p:Pos}(hp:s[j]?=some p){i:Int}(bH:0<=i)(AX:i<=(n:Int))(cN:0<=p.at_/\p.at_<=(n:Int)/\0<=p.cq/\p.cq<=k)(h1:p.at_-k<=i)(ag:i<=p.at_+k){x:Int}(ah:(gv n (ts n k s j i))[i.toNat]?=some x):
 (gv n (ts n k s j i)).set i.toNat (min x (p.cq+max (i-p.at_) (p.at_-i)))=gv n (ts n k s j (i+1)):=by
 obtain⟨wD,hN⟩:=pc ah;have ar:(i.toNat:Int)=i:=(by omega);refine IS hN ?_ λy aD dL=>?_
 . rw[wD];unfold ts;rw[if_neg aa,if_pos aa,IT hp,if_pos ⟨cN,by omega⟩,ar]
 . unfold ts;by_cases h:(y:Int)<i
   . rw[if_pos h,if_pos aa]
   . rw[if_neg h,if_neg aa]
theorem ag4{n:Nat}{k:Int}{s:List Pos}{j:Nat}{p:Pos}(hp:s[j]?=some p){i:Int}(h:i>min (p.at_+k) (n:Int)):gv n (ts n k s j i)=gv n (dY n k (s.take (j+1))):=by
 refine Fg λx ah=>?_
 unfold ts;split
 . rfl
 . rw[IT hp,if_neg aa]
theorem ag5{n:Nat}{k:Int}{s:List Pos}{j:Nat}{l:List Int}(h:l=gv n (dY n k (s.take j)))(bn:s.length<=j):l=gv n (dY n k s):=by
 rw[h,List.take_of_length_le bn]
theorem xR{n:Nat}{k:Int}(hk:0<=k)(s:List Pos)(x:Nat):0<=dY n k s x/\dY n k s x<=k+1:=by
 rw[V0];refine⟨Nk _ _ _ _ aa λp hp y aD=>?_,IQ _ _ _⟩;unfold xP at aD;split at aD
 . cases aD;omega
 . cases aD
theorem ar'{n:Nat}{k:Int}{s:List Pos}{j:Nat}{i:Int}{x:Nat}(hk:0<=k):0<=ts n k s j i x/\ts n k s j i x<=k+1:=by
 unfold ts;split<;>exact xR hk _ _
def ra(n:Nat)(f:Nat->Int)(j:Nat)(i:Int):Bool:=(List.range n).any λ(x:Nat)=>(decide (f x<f j) && decide (max ((x:Int)-(j:Int)) ((j:Int)-(x:Int))<=f j-f x)) && decide ((x:Int)<i)
theorem ag6{n:Nat}{f:Nat->Int}{j:Nat}{k i:Int}(hp:∀x,0<=f x)(bn:f j<=k)(ar:i=max ((j:Int)-k) 0):false=ra n f j i:=by
 symm;unfold ra;rw[List.any_eq_false];intro x ah;have:=hp x;simp only[Bool.and_eq_true,decide_eq_true_eq,not_and];intro h;omega
theorem V6{n:Nat}{f:Nat->Int}{j:Nat}{i:Int}{b:Bool}(ab:b=ra n f j i)(bH:0<=i)(aN:i<(n:Int)){c:Bool}(al:c=(decide (f i.toNat<f j) && decide (max (i-(j:Int)) ((j:Int)-i)<=f j-f i.toNat))):(b || c)=ra n f j (i+1):=by
 rw[ab,Bool.eq_iff_iff];have ar:(i.toNat:Int)=i:=(by omega);unfold ra;rw[Bool.or_eq_true,List.any_eq_true,List.any_eq_true];constructor
 . rintro(⟨x,ah,h⟩|h)
   . refine⟨x,ah,?_⟩;simp only[Bool.and_eq_true,decide_eq_true_eq] at h ⊢;omega
   . refine⟨i.toNat,List.mem_range.2 aa,?_⟩;rw[al] at h;simp only[Bool.and_eq_true,decide_eq_true_eq] at h ⊢;rw[ar];omega
 . rintro⟨x,ah,h⟩;simp only[Bool.and_eq_true,decide_eq_true_eq] at h;by_cases IU:(x:Int)<i
   . left;refine⟨x,ah,?_⟩;simp only[Bool.and_eq_true,decide_eq_true_eq];omega
   . right;have:x=i.toNat:=by omega
     subst this;rw[al,ar] at *;simp only[Bool.and_eq_true,decide_eq_true_eq];omega
theorem V7{n:Nat}{f:Nat->Int}{j:Nat}{k i:Int}{b:Bool}(ab:b=ra n f j i)(hp:∀x,0<=f x)(bn:f j<=k)(ar:i>min ((j:Int)+k) ((n:Int)-1)):b=nr n k f j:=by
 rw[ab];unfold ra nr;rw[Bool.eq_iff_iff,List.any_eq_true,List.any_eq_true];constructor
 . rintro⟨x,ah,h⟩;rw[Bool.and_eq_true] at h;exact⟨x,ah,h.1⟩
 . rintro⟨x,ah,h⟩;refine⟨x,ah,?_⟩;have h1:=List.mem_range.1 ah;have:=hp x;rw[Bool.and_eq_true];refine⟨h,?_⟩;simp only[Bool.and_eq_true,decide_eq_true_eq] at h ⊢;omega
def stateT(n:Nat)(k:Int)(f:Nat->Int)(i:Nat):List Pos:=((List.range i).filter λ(j:Nat)=>decide (f j<=k) && !nr n k f j).map λ(j:Nat)=>Pos.mk (j:Int) (f j)
theorem ag7{n:Nat}{k:Int}{f:Nat->Int}{i:Nat}{l:List Pos}(h:l=stateT n k f i)(bC:f i>k):l=stateT n k f (i+1):=by
 rw[h];unfold stateT;rw[List.range_succ,List.filter_append,List.filter_cons_of_neg (by simp;omega)];simp
theorem ag8{n:Nat}{k:Int}{f:Nat->Int}{i:Nat}{l:List Pos}(h:l=stateT n k f i)(bC:true=nr n k f i):l=stateT n k f (i+1):=by
 rw[h];unfold stateT;rw[List.range_succ,List.filter_append,List.filter_cons_of_neg (by simp[<-bC])];simp
theorem ag9{n:Nat}{k:Int}{f:Nat->Int}{i:Nat}{l:List Pos}(h:l=stateT n k f i)(bC:¬ f i>k)(bk:false=nr n k f i){x:Int}(ah:x=f i):l++[Pos.mk (i:Int) x]=stateT n k f (i+1):=by
 rw[h,ah];unfold stateT;rw[List.range_succ,List.filter_append,List.filter_cons_of_pos (by simp[<-bk];omega)];simp
theorem ag_(n:Nat)(k:Int)(f:Nat->Int)(i:Nat):(stateT n k f i).length<=i:=by
 unfold stateT;rw[List.length_map];exact Nat.le_trans (List.length_filter_le _ _) di
theorem ag'(n:Nat)(k:Int)(f:Nat->Int):(fQ n k f).length<=n:=ag_ n k f n
def r2(n:Nat)(k:Int)(q:List Int)(s:List Pos)(r:Int)(i:Nat)(x:Nat):Int:=if x<=i then fJ k q (dY n k s) r x else dY n k s x
theorem aha{n:Nat}{k:Int}{q:List Int}{s:List Pos}{r x:Int}(ah:(gv n (dY n k s))[0]?=some x):(gv n (dY n k s)).set 0 (min (x+1) (k+1))=gv n (r2 n k q s r 0):=by
 obtain⟨wD,hN⟩:=pc ah;refine IS hN ?_ λj bn dL=>?_
 . rw[wD];unfold r2;rw[if_pos (Nat.le_refl _)];rfl
 . unfold r2;rw[if_neg aa]
theorem V8{n:Nat}{k:Int}{q:List Int}{s:List Pos}{r:Int}{i:Nat}(ar:i+1<n+1){a b c t:Int}(ax:(gv n (dY n k s))[i+1]?=some a)(ab:(gv n (r2 n k q s r i))[i]?=some b)(al:(gv n (dY n k s))[i]?=some c)(a8:t=c+if q[i]?=some r then 0 else 1):
 (gv n (r2 n k q s r i)).set (i+1) (min (min (min (a+1) (b+1)) t) (k+1))=gv n (r2 n k q s r (i+1)):=by
 obtain⟨ahb,_⟩:=pc ax;obtain⟨ahc,_⟩:=pc ab;obtain⟨ahd,_⟩:=pc al;refine IS ar ?_ λj bn dL=>?_
 . have e:b=fJ k q (dY n k s) r i:=(by rw[ahc];unfold r2;rw[if_pos (Nat.le_refl _)]);unfold r2;rw[if_pos (Nat.le_refl _)];show _=min (min (min (dY n k s (i+1)+1) (fJ k q (dY n k s) r i+1)) (dY n k s i+if q[i]?=some r then 0 else 1)) (k+1);rw[<-e,<-ahb,a8,ahd]
 . unfold r2;by_cases h:j<=i
   . rw[if_pos h,if_pos aa]
   . rw[if_neg h,if_neg aa]
theorem ahe{n:Nat}{k:Int}{q:List Int}{s:List Pos}{r:Int}{i:Nat}{l:List Int}(h:l=gv n (r2 n k q s r i))(ar:n<=i):l=gv n (fJ k q (dY n k s) r):=by
 rw[h];refine Fg λj bn=>?_
 unfold r2;rw[if_pos aa]
theorem Nl{k:Int}(hk:0<=k){q:List Int}{f:Nat->Int}{r:Int}(h:∀i,0<=f i/\f i<=k+1):∀i,0<=fJ k q f r i/\fJ k q f r i<=k+1
 | 0=>by have:=h 0;unfold fJ;omega
 | i+1=>by
  have h1:=h (i+1);have ag:=h i;have aB:=Nl (q:=q) (r:=r) hk h i
  unfold fJ;split<;>omega
end Go.ak
namespace Go.ak
open Go.aF
theorem ahf{n:Nat}{f:Nat->Int}{j:Nat}{i:Int}(ab:true=ra n f j i)(bH:0<=i)(aN:i<(n:Int)):true=ra n f j (i+1):=by
 have:=V6 (c:=(decide (f i.toNat<f j) && decide (max (i-(j:Int)) ((j:Int)-i)<=f j-f i.toNat))) ab bH aN rfl;rw[Bool.true_or] at this;exact this
theorem V9{n:Nat}{f:Nat->Int}{j:Nat}{i x:Int}{b:Bool}(ab:false=ra n f j i)(bH:0<=i)(aN:i<(n:Int))(ah:x=f i.toNat)(al:(b=true/\x<f j/\max (i-(j:Int)) ((j:Int)-i)<=f j-x)\/(b=false/\¬ (x<f j/\max (i-(j:Int)) ((j:Int)-i)<=f j-x))):b=ra n f j (i+1):=by
 have:=V6 (c:=b) ab bH aN (by
  rw[<-ah]
  rcases al with ⟨h,h1,ag⟩|⟨h,h1⟩
  . rw[h,decide_eq_true h1,decide_eq_true ag];rfl
  . rw[h]
    by_cases ag:x<f j
    . rw[decide_eq_true ag,decide_eq_false (λaB=>h1 ⟨ag,aB⟩)];rfl
    . rw[decide_eq_false ag];rfl)
 rw[Bool.false_or] at this;exact this
theorem V_{n:Nat}{k:Int}{q:List Int}{r:Int}(hk:0<=k)(s:List Pos)(i x:Nat):0<=r2 n k q s r i x/\r2 n k q s r i x<=k+1:=by
 unfold r2;split
 . exact Nl hk (xR hk s) x
 . exact xR hk s x
theorem ahg{α:Type}{l:List α}{b:Bool}(h:b=((l.length:Int)==0)):b=l.isEmpty:=by
 rw[h];cases l<;>simp
 omega
end Go.ak
namespace Go.ak
open Go.aF
theorem ahh{n:Nat}{f:Nat->Int}{j:Nat}{i x y:Int}{b:Bool}(ab:false=ra n f j i)(bH:0<=i)(aN:i<(n:Int))(ah:x=f i.toNat)(aD:y=f j)(bk:x<y)(al:b=decide (max (i-(j:Int)) ((j:Int)-i)<=y-x)):b=ra n f j (i+1):=by
 refine V9 ab bH aN ah ?_;subst aD
 cases b with
 | true=>exact .inl ⟨rfl,bk,of_decide_eq_true al.symm⟩
 | false=>exact .inr ⟨rfl,λh=>(of_decide_eq_false al.symm) h.2⟩
theorem ahi{n:Nat}{f:Nat->Int}{j:Nat}{i x y:Int}(ab:false=ra n f j i)(bH:0<=i)(aN:i<(n:Int))(ah:x=f i.toNat)(aD:y=f j)(bk:¬ x<y):false=ra n f j (i+1):=
 V9 ab bH aN ah (.inr ⟨rfl,λh=>bk (aD▸h.1)⟩)
end Go.ak
namespace Go.ak
open Go.aF
def vl(q:List Int)(d:Int)(w:aj):Bool:=decide (vk q (d_ w)=d)
structure ha where
 n:Nat
 x:List aj×List cg
 word:aj
def ha.p(z:ha):List Int:=d_ z.word
def CX(q:List Int)(d:Int)(z:ha):List aj:=(z.x.1.map (z.word++·)).filter (vl q d)
def mP(q:List Int)(d:Int)(S:List ha):List aj:=S.reverse.flatMap (CX q d)
theorem IV{c:Nat}(al:kO c)(w:aj)(hw:ir w):d_ (w++eg c)=d_ w++[(c:Int)]:=by
 obtain⟨h1,ag⟩:=HL w hw
 have key:∀(rs:List Nat),(∀d∈rs,kO d)->hi (sv rs++eg c)=rs++[c]:=by
  intro rs h
  have:sv rs++eg c=sv (rs++[c]):=by
   clear h
   induction rs with
   | nil=>simp[sv]
   | cons a rs cc=>rw[aex,List.append_assoc,cc];rfl
  rw[this]
  exact SX _ λd hd=>by
   rcases List.mem_append.1 hd with hd|hd
   . exact h d hd
   . simp only[List.mem_singleton] at hd;subst hd;exact al
 have:=key (hi w) ag;rw[h1] at this;unfold d_;rw[this,List.map_append];rfl
theorem Nn{c:Nat}(al:kO c){w:aj}(hw:ir w):ir (w++eg c):=by
 unfold ir;have h:=IV al w hw;intro hm;have:(65533:Int)∈d_ (w++eg c):=List.mem_map.2 ⟨65533,hm,rfl⟩
 rw[h] at this;rcases List.mem_append.1 this with h1|h1
 . obtain⟨a,ax,he⟩:=List.mem_map.1 h1;have:a=65533:=by omega
   subst this;exact hw ax
 . simp only[List.mem_singleton] at h1;have:=al.2.2;omega
theorem ahj:∀(t:aj),ir t->∀(w:aj),ir w->∃u,d_ (w++t)=d_ w++u/\ir (w++t):=by
 intro t a8;refine L3 (p:=λt=>∀(w:aj),ir w->∃u,d_ (w++t)=d_ w++u/\ir (w++t)) ?_ ?_ t a8
 . intro w hw;exact⟨[],by simp,by simpa using hw⟩
 . intro c t al _ cc w hw;obtain⟨u,h1,ag⟩:=cc (w++eg c) (Nn al hw);rw[IV al w hw] at h1;rw[List.append_assoc] at h1 ag;exact⟨(c:Int)::u,by rw[h1];simp,ag⟩
theorem ahk{q:List Int}{d:Int}(hd:0<=d){w:aj}(hw:ir w)(h:fu q d (d_ w)=[]){l:List aj}(bk:∀t∈l,ir t):(l.map (w++·)).filter (vl q d)=[]:=by
 rw[List.filter_eq_nil_iff];intro x ah;obtain⟨t,a8,rfl⟩:=List.mem_map.1 ah;obtain⟨u,h1,_⟩:=ahj t (bk t a8) w hw;have:=agU (agT hd h) u;unfold vl;rw[h1];simp only[decide_eq_true_eq];omega
def zf(q:List Int)(d:Int)(z:ha)(g:Nat×List aj):List aj:=(g.2.map ((z.word++eg g.1)++·)).filter (vl q d)
theorem ahl{q:List Int}{d:Int}{z:ha}(h:gy z.x.1):CX q d z=(if j5 z.x.1=true/\vl q d z.word=true then[z.word] else[])++(g_ (fI z.x.1)).flatMap (zf q d z):=by
 unfold CX;rw[Tv h,List.filter_append];congr 1
 . by_cases bC:j5 z.x.1=true
   . rw[if_pos bC];by_cases aN:vl q d z.word=true
     . rw[if_pos ⟨bC,aN⟩,List.filter_cons_of_pos aN];rfl
     . rw[if_neg (λh=>aN h.2),List.filter_cons_of_neg aN];rfl
   . rw[if_neg bC,if_neg (λh=>bC h.1)];rfl
 . unfold ti;rw[List.drop_zero,List.filter_flatMap];congr 1
   funext g;unfold zf;congr 1
   exact List.map_congr_left λt _=>by simp
def mQ(q:List Int)(d:Int)(z:ha)(k:Nat):List aj:=((g_ (fI z.x.1)).drop k).flatMap (zf q d z)
theorem ahm{q:List Int}{d:Int}{z:ha}:mQ q d z 0=(g_ (fI z.x.1)).flatMap (zf q d z):=by unfold mQ;rw[List.drop_zero]
theorem ahn{q:List Int}{d:Int}{z:ha}{k:Nat}(h:(g_ (fI z.x.1)).length<=k):mQ q d z k=[]:=by unfold mQ;rw[List.drop_of_length_le h];rfl
theorem IW{q:List Int}{d:Int}{z:ha}{k:Nat}{g:Nat×List aj}(h:(g_ (fI z.x.1))[k]?=some g):mQ q d z k=zf q d z g++mQ q d z (k+1):=by
 unfold mQ;rw[wq h,List.flatMap_cons]
theorem V'{q:List Int}{d:Int}{S:List ha}{z:ha}:mP q d (S++[z])=CX q d z++mP q d S:=by
 unfold mP;rw[List.reverse_append];simp
theorem aho{q:List Int}{d:Int}{S:List ha}{z y:ha}{g:Nat×List aj}(aD:y.x.1=g.2)(hw:y.word=z.word++eg g.1):mP q d (S++[y])=zf q d z g++mP q d S:=by
 rw[V'];congr 1
 unfold CX zf;rw[aD,hw]
def ur(l:List aj):Nat:=1+(l.map λt=>(hi t).length).sum
def rb(S:List ha):Nat:=(S.map λz=>ur z.x.1).sum
theorem Wa(S:List ha)(z:ha):rb (S++[z])=rb S+ur z.x.1:=by simp[rb]
theorem ahp(a b:List aj):((a++b).map λt=>(hi t).length).sum=(a.map λt=>(hi t).length).sum+(b.map λt=>(hi t).length).sum:=by simp
theorem ahq{c:Nat}(al:kO c)(l:List aj):((l.map (eg c++·)).map λt=>(hi t).length).sum=l.length+(l.map λt=>(hi t).length).sum:=by
 induction l with
 | nil=>rfl
 | cons a l cc =>
  simp only[List.map_cons,List.sum_cons,List.length_cons];rw[cc,we al];simp only[List.length_cons];omega
def wE(l:List (Nat×List aj)):Nat:=(l.map λg=>ur g.2).sum
theorem Wb:∀(n:Nat) (l:List aj),l.length<=n->gy l->(∀s∈l,s≠[])->wE (g_ l)<=(l.map λt=>(hi t).length).sum
 | _,[],_,_,_=>by simp[AD,wE]
 | 0,_::_,h,_,_=>by simp at h
 | n+1,s::r,h,aU,aN=>by
  have aT:=aN s di
  have bC:=aU.o7 s di
  obtain⟨Er,q1,_⟩:=bC.split aT
  have al:kO (gb s):=Er
  have hp:dC s=eg (gb s):=(yQ aT ((yR aT).1 bC).1).2.symm
  have ahr:=EG (dC s) (s::r)
  have IX:=congrArg (λl:List aj=>(l.map λt=>(hi t).length).sum) ahr
  have ahs:(((eZ (dC s) (s::r)).map (dC s++·)++l9 (dC s) (s::r)).map λt=>(hi t).length).sum=((s::r).map λt=>(hi t).length).sum:=IX
  replace IX:=ahs
  rw[ahp,hp,ahq al] at IX
  have hm:=AB s r
  have hlen:1<=(eZ (dC s) (s::r)).length:=by
   unfold eZ
   rw[List.takeWhile_cons,if_pos (AA s)];simp
  have cc:=Wb n (l9 (dC s) (s::r)) (by simp only[List.length_cons] at h;omega) (aU.more _) λt a8=>aN t ((List.dropWhile_sublist _).subset a8)
  rw[Cp]
  unfold wE at cc ⊢
  rw[hp] at cc hlen ⊢
  simp only[List.map_cons,List.sum_cons]
  unfold ur at cc ⊢
  simp only[List.map_cons,List.sum_cons] at IX
  omega
theorem aht{l:List aj}(h:gy l):wE (g_ (fI l))+1<=ur l:=by
 have hd:=u9 h;have:=Wb _ _ (Nat.le_refl _) hd.1 hd.2
 have aT:((fI l).map λt=>(hi t).length).sum=(l.map λt=>(hi t).length).sum:=by
  cases l with
  | nil=>rfl
  | cons a r=>cases a with
   | nil=>simp[fI,xv]
   | cons b a=>rfl
 unfold ur;omega
def re(l:List (Nat×List aj))(k:Nat):Nat:=wE (l.drop k)
theorem IY{l:List (Nat×List aj)}{k:Nat}{g:Nat×List aj}(h:l[k]?=some g):re l k=ur g.2+re l (k+1):=by
 unfold re wE;rw[wq h];simp
theorem ahu(l:List (Nat×List aj)):re l 0=wE l:=by unfold re;rw[List.drop_zero]
theorem Fh(l:List aj):1<=ur l:=by unfold ur;omega
def p'(words:List aj)(q:List Int)(d:Int):List aj:=words.filter (vl q d)
theorem Wc{q:List Int}{d:Int}{words:List aj}{es:List cg}{n:Nat}:mP q d [⟨n,(words,es),[]⟩]=p' words q d:=by
 unfold mP CX p';simp
theorem ahv{q:List Int}{d:Int}(hd:0<=d){w:aj}{D:Int}(jr:D=dY q.length d (fu q d (d_ w)) q.length):(D<=d/\D=d)↔vl q d w=true:=by
 rw[agV hd] at jr;unfold vl;rw[decide_eq_true_eq];omega
end Go.ak
set_option linter.unusedSectionVars false
namespace Go.aF
open Go
theorem Acc.cut{P:Program}{α:Type}{enc:α->List Value}{e:TypeId}{sz g:Nat}{w:World}{v:Value}{l:List α}{t:TypeId}{by_:Nat}{fU:Bool}{z:List Value}(h:Acc enc e sz w g v l)(a8:P.underlying t=some (.slice e))(he:eu P e=some (fU,sz,by_,z))(dM:∀x,(enc x).length=sz)
 {k:IntKind} {n:Int} (j:Nat) (aN:n=(j:Int)) (bn:j<=l.length):∃gS,(∀w,(Instr.sliceAt t v none (some (.int k n)) none).run P w=.ok gS w)/\Acc enc e sz w g gS (l.take j):=by
 rcases h with ⟨h1,ag,aB⟩|⟨b,cap,cur,bH,h1,ag,aB,bE,c3,eX⟩
 . subst ag;have Fi:j=0:=(by simpa using bn);subst Fi;refine⟨.slice none 0 0,λw=>?_,.inl ⟨rfl,rfl,aB⟩⟩;subst h1;simp[Instr.sliceAt,Instr.slice,Instr.sliceBounds,run_underlying a8,run_sizeOf he,tT (P:=P) (k:=k) _ aN (Nat.le_refl 0)]
 . refine⟨.slice (some ⟨b,0,none⟩) j cap,λw=>?_,.inr ⟨b,cap,cur,bH,by rw[List.length_take,Nat.min_eq_left bn],ag,by rw[List.length_take];omega,bE,c3,?_⟩⟩
   . subst h1;have ab:=λc w=>tT (P:=P) (k:=k) c aN (Nat.le_trans bn aB) w
     by_cases al:cap=0
     . subst al;have Fi:j=0:=(by omega);subst Fi;simp[Instr.sliceAt,Instr.slice,Instr.sliceBounds,run_underlying a8,run_sizeOf he,ab]
     . simp[Instr.sliceAt,Instr.slice,Instr.sliceBounds,run_underlying a8,run_sizeOf he,ab,al,add_lit]
   . rw[List.length_take,Nat.min_eq_left bn,<-RY dM,<-eX,List.take_take,Nat.min_eq_left (Nat.mul_le_mul_right _ bn)]
theorem hy.A6{gt:TypeId}{w an:World}{c5 ar:Nat}{M:Nat->Prop}{v:Value}{N:List cx}(h:hy gt w c5 ar v N)(hm:Mod M w an)(hd:∀b,c5<=b->b<ar->¬ M b):hy gt an c5 ar v N:=by
 rcases h with h|⟨b,gn,bm,h1,ag,aB,bE,c3⟩
 . exact .inl h
 . exact .inr ⟨b,gn,bm,h1,ag,⟨aB.1,aB.2.1,aB.2.2.keep hm (hd b aB.1 aB.2.1)⟩,bE.keep hm λb ab=>hd b ab.1 ab.2,c3.keep hm λb ab=>hd b ab.1 ab.2⟩
structure Wd(P:Program){b8:Type}(kP:FuncId)(first cap:List Value)(A:b8->dq (λ_=>False))(ok:b8->aj->Prop)(f:b8->aj->b8×Bool):Prop where
 cl:b7 P kP=true
 call:∀s F w x,(A s).p F w->(∀b,F b->b<w.heap.size)->ok s x->Calls P kP (first++[aE x]++cap).toArray w (ao λaC an=>aC=.bool (f s x).2/\Mod F w an/\∃F',(A (f s x).1).p F' an/\∀b,F' b->b<an.heap.size/\(F b\/w.heap.size<=b))
section
variable {R bV:Nat->Prop} {w0 w an:World} {L:List (dq R)} {i j:Nat} {α:Type} {enc:α->List Value}
theorem au.Fj{vs:List (Value×List α)}{v:Value}{l:List α}(h:au R bV w0 w L)(ar:L[i]?=some (fe enc vs))(hm:(v,l)∈vs):aq enc w (dr 0 w.heap.size) v l:=by
 obtain⟨k,hk,he⟩:=List.getElem_of_mem hm;exact h.b9 ar (List.getElem?_eq_some_iff.2 ⟨hk,he⟩)
theorem IZ{V Fk:List (Value×List α)}{F:Nat->Prop}(h:(bl (R:=R) [fe enc V,fe enc Fk]).p F w):(fe (R:=R) enc (V++Fk)).p F w:=by
 obtain⟨fh,h1,ag,_⟩:=h;intro x ah;rcases List.mem_append.1 ah with ah|ah
 . exact(h1 0 _ rfl x ah).mono λb ab=>ab.imp (λh=>(ag 0 b h).1.1) id
 . exact(h1 1 _ rfl x ah).mono λb ab=>ab.imp (λh=>(ag 1 b h).1.1) id
end
structure hB where
 node:Int
 st:cP
 word:aj
def rf(x:hB):List Value:=[.int .i64 x.node,x.st.val,aE x.word]
theorem A7(x:hB):(rf x).length=3:=rfl
theorem I0(x:hB):(rf x).all (·.oneCell')=true:=rfl
open ak
structure nU(q:List Int)(d:Int)(s:c6)(V:List (Value×List Pos))(p:hB)(z:ha):Prop where
 node:p.node=(z.n:Int)
 word:p.word=z.word
 st:(p.st.val,fu q d (d_ z.word))∈V
 ahw:nodeAt (fW s) (z.n:Int)=(j5 z.x.1,z.x.2)
 wh:o8 s z.x
 e9:gy z.x.1
 o7:ir z.word
 lt:z.n<=1000000
 deep:∃e,Deep e z.x.1/\z.word.length+4*e<=48
theorem nU.mono{q:List Int}{d:Int}{s:c6}{V Fk:List (Value×List Pos)}{p:hB}{z:ha}(h:nU q d s V p z)(Au:∀x∈V,x∈Fk):nU q d s Fk p z:={ h with st:=Au _ h.st }
theorem nU.start{q:List Int}{d:Int}(hd:0<=d){s:c6}{words:List aj}{es:List cg}{sh:cP}{v:Value}(cN:v=sh.val)(qa:nodeAt (fW s) 0=(j5 words,es))(al:o8 s (words,es))(aU:gy words)(IA:Deep 12 words):
 c4 (nU q d s [(v,[⟨0,0⟩])]) [hB.mk 0 sh []] [⟨0,(words,es),[]⟩]:=
 .cons ⟨rfl,rfl,by rw[cN,show d_ ([]:aj)=[] from rfl,agQ hd];simp,qa,al,aU,by simp[ir,xv],by simp,12,IA,by simp⟩ .nil
theorem c4.snoc{α β:Type}{R:α->β->Prop}{l:List α}{m:List β}{a:α}{b:β}(h:c4 R l m)(mL:R a b):c4 R (l++[a]) (m++[b]):=by
 induction h with
 | nil=>exact .cons mL .nil
 | cons x _ cc=>exact .cons x cc
theorem c4.pop{α β:Type}{R:α->β->Prop}:∀{l:List α} {m:List β} {n:Nat} {a:α},c4 R l m->l[n]?=some a->n+1=l.length->∃m1 b,m=m1++[b]/\c4 R (l.take n) m1/\R a b
 | _,_,n,a,.nil,ah,_=>by simp at ah
 | _,_,0,a,.cons (l:=l) (m:=m) mL h,ah,aN=>by
  have:l=[]:=List.eq_nil_of_length_eq_zero (by simp only[List.length_cons] at aN;omega)
  subst this
  cases h
  simp only[List.getElem?_cons_zero,Option.some.injEq] at ah
  subst ah
  exact⟨[],_,rfl,.nil,mL⟩
 | _,_,n+1,a,.cons (l:=l) (m:=m) mL h,ah,aN=>by
  obtain⟨m1,b,h1,ag,aB⟩:=c4.pop h u0 (by simp only[List.length_cons] at aN;omega)
  exact⟨_::m1,b,by rw[h1];rfl,.cons mL ag,aB⟩
theorem nU.pop{q:List Int}{d:Int}{s:c6}{V:List (Value×List Pos)}{hs:List hB}{nI:List ha}{n:Nat}{x:hB}(h:c4 (nU q d s V) hs nI)(ah:hs[n]?=some x)(aN:n+1=hs.length):
 ∃mz z sh,nI=mz++[z]/\x=hB.mk (z.n:Int) sh z.word/\c4 (nU q d s V) (hs.take n) mz/\(sh.val,fu q d (d_ z.word))∈V/\nodeAt (fW s) (z.n:Int)=(j5 z.x.1,z.x.2)/\o8 s z.x/\gy z.x.1/\ir z.word/\z.n<=1000000/\∃e,Deep e z.x.1/\z.word.length+4*e<=48:=by
 obtain⟨mz,z,h1,ag,aB⟩:=c4.pop h ah aN;refine⟨mz,z,x.st,h1,?_,ag,aB.st,aB.ahw,aB.wh,aB.e9,aB.o7,aB.lt,aB.deep⟩;rw[<-aB.node,<-aB.word]
theorem nU.push{q:List Int}{d:Int}(hd:0<=d){s:c6}{V:List (Value×List Pos)}{hs:List hB}{nI:List ha}(h:c4 (nU q d s V) hs nI)(dM:s.length<=1000000)(me:∀y∈s,o8 s y/\gy y.1/\Deep 12 y.1){w:aj}(hw:ir w){g:Nat×List aj}{j:Nat}{es:List cg}{r:Int}{sh:cP}{L:List Pos}{wd:aj}{vm:Nat}
 (lR:r=(g.1:Int)) (bn:s[j]?=some (g.2,es)) (aU:kO g.1) (k3:L=fQ (q.length+1) d (fJ d q (dY q.length d (fu q d (d_ w))) r)) (I1:wd=w++eg g.1) (tt:Deep vm g.2) (hlen:w.length+4*(vm+1)<=48) {to:Int} (qB:to=(j:Int)) :
 c4 (nU q d s (V++[(sh.val,L)])) (hs++[hB.mk to sh wd]) (nI++[⟨j,(g.2,es),w++eg g.1⟩]):=by
 have aN:=me _ (List.mem_of_getElem? bn);have bE:=xD g.1;refine c4.snoc (h.imp λa b mL=>mL.mono λx ah=>by simp[ah]) ⟨qB,I1,?_,AP bn,aN.1,aN.2.1,Nn aU hw,by have:=(List.getElem?_eq_some_iff.1 bn).1;simp only;omega,vm,tt,by simp only[List.length_append];omega⟩;rw[k3,lR,V3 hd,<-IV aU w hw];simp
theorem CY:∀{hs:List hB} {nI:List ha} {R:hB->ha->Prop},c4 R hs nI->hs.length<=rb nI
 | _,_,_,.nil=>by simp
 | _,_,_,.cons (b:=b) (m:=m) _ h=>by
  have:=CY h
  have h1:=Fh b.x.1
  simp only[List.length_cons,rb,List.map_cons,List.sum_cons] at this ⊢
  omega
end Go.aF
namespace Go.ak
open Go.aF
section
variable {b8:Type} {f:b8->aj->b8×Bool} {ok:b8->aj->Prop} {dD et:b8} {L E T:List aj} {w:aj} {P:Prop} [Decidable P]
theorem No(h:fq f dD L=fq f et (((if P then[w] else[])++E)++T))(hp:¬ P):fq f dD L=fq f et (E++T):=by rw[if_neg hp] at h;exact h
theorem Np(h:l' ok f et (((if P then[w] else[])++E)++T))(hp:¬ P):l' ok f et (E++T):=by rw[if_neg hp] at h;exact h
theorem ahx(h:fq f dD L=fq f et (((if P then[w] else[])++E)++T))(hp:P)(aD:(f et w).2=true):fq f dD L=fq f (f et w).1 (E++T):=by
 rw[if_pos hp,List.append_assoc] at h;rw[h];exact Mk aD
theorem We(h:fq f dD L=fq f et (((if P then[w] else[])++E)++T))(hp:P)(aD:(f et w).2=false):fq f dD L=((f et w).1,false):=by
 rw[if_pos hp,List.append_assoc] at h;rw[h];exact u' aD
theorem ahy(h:l' ok f et (((if P then[w] else[])++E)++T))(hp:P):ok et w:=by
 rw[if_pos hp,List.append_assoc] at h;exact h.1
theorem ahz(h:l' ok f et (((if P then[w] else[])++E)++T))(hp:P)(aD:(f et w).2=true):l' ok f (f et w).1 (E++T):=by
 rw[if_pos hp,List.append_assoc] at h;exact h.2 aD
end
theorem Fl{D d:Int}(h:decide (D<=d)=true)(ag:(if D>d then 0 else D)=d):D<=d/\D=d:=by
 have:=of_decide_eq_true h;rw[if_neg aa] at ag;exact⟨this,ag⟩
theorem CZ{D d:Int}(ag:¬ (if D>d then 0 else D)=d)(al:D<=d/\D=d):False:=by rw[if_neg aa] at ag;exact ag al.2
theorem C0{D d:Int}(h:decide (D<=d)=false)(al:D<=d/\D=d):False:=(of_decide_eq_false h) al.1
theorem ahA{s:c6}{q:List Int}{d:Int}(hd:0<=d){z:ha}{g:Nat×List aj}{j:Nat}{es:List cg}{r:Int}{L:List Pos}(bC:ir z.word)(lR:r=(g.1:Int))(aU:kO g.1)(bn:s[j]?=some (g.2,es))(me:∀y∈s,o8 s y/\gy y.1/\Deep 12 y.1)
 (k3:L=fQ (q.length+1) d (fJ d q (dY q.length d (fu q d (d_ z.word))) r)) (ahB:L.isEmpty=true):zf q d z g=[]:=by
 have aN:=me _ (List.mem_of_getElem? bn);rw[lR,V3 hd,<-IV aU z.word bC] at k3;have he:L=[]:=List.isEmpty_iff.1 ahB;rw[he] at k3;exact ahk hd (Nn aU bC) k3.symm aN.2.1.o7
end Go.ak
namespace Go.ak
open Go.aF
theorem Wf{q:List Int}{d:Int}{z:ha}{i:Int}(h:i<0):mQ q d z (i+1).toNat=mQ q d z 0:=by rw[show(i+1).toNat=0 from by omega]
theorem Nq{l:List (Nat×List aj)}{i:Int}(h:i<0):re l (i+1).toNat=wE l:=by rw[show(i+1).toNat=0 from by omega,ahu]
theorem Wg{q:List Int}{d:Int}{z:ha}{i:Int}{X:List aj}(h:0<=i)(ah:mQ q d z i.toNat=X++mQ q d z (i.toNat+1)):mQ q d z (i-1+1).toNat=X++mQ q d z (i+1).toNat:=by
 rw[show(i-1+1).toNat=i.toNat from by omega,show(i+1).toNat=i.toNat+1 from by omega];exact ah
theorem Wh{l:List (Nat×List aj)}{i:Int}{x:Nat}(h:0<=i)(ah:re l i.toNat=x+re l (i.toNat+1)):re l (i-1+1).toNat=x+re l (i+1).toNat:=by
 rw[show(i-1+1).toNat=i.toNat from by omega,show(i+1).toNat=i.toNat+1 from by omega];exact ah
theorem ahC{s:c6}{x:List aj×List cg}(al:o8 s x):(g_ (fI x.1)).length=x.2.length:=(c4.get al).1
theorem Wi{q:List Int}{d:Int}{s:c6}{V:List (Value×List Pos)}{hs:List hB}{nI:List ha}(h:c4 (nU q d s V) hs nI)(hp:hs.length=0):nI=[]:=by
 have:=(c4.get h).1;exact List.eq_nil_of_length_eq_zero aa
end Go.ak
namespace Go.ak
open Go.aF
theorem I2(l:List (Nat×List aj))(k:Nat):re l k<=wE l:=by
 unfold re wE
 conv=>rhs;rw[<-List.take_append_drop k l]
 rw[List.map_append,List.sum_append];omega
end Go.ak
namespace Go.ak
open Go.aF
structure b6 where
 cq:Int
 word:aj
deriving DecidableEq
def eJ(x:b6):List Value:=[.int .i64 x.cq,aE x.word]
theorem oK(x:b6):(eJ x).length=2:=rfl
theorem wF(x:b6):(eJ x).all (·.oneCell')=true:=rfl
structure b6.Ok(x:b6):Prop where
 cq:bY x.cq
 word:x.word.length<=maxLen
def Nr(a b:b6):Int:=oF [pw a.cq b.cq,Lib.compareBytes a.word b.word]
def oq(a b:b6):Bool:=decide (Nr a b<0)
def pH(g:List cx)(s:aj)(k:Int):Bool:=(!g.isEmpty) && decide (0<=k/\k<=4) && asked s
def jj(g:List cx)(s:aj)(k:Int):List Int:=if pH g s k=true then d_ s else[]
theorem Wj{s:aj}{k:Int}:pH [] s k=false:=rfl
theorem Wk{g:List cx}{s:aj}{k:Int}(h:k<0\/k>4):pH g s k=false:=by unfold pH;rw[decide_eq_false aa];simp
theorem Wl{g:List cx}{s:aj}{k:Int}(h:asked s=false):pH g s k=false:=by unfold pH;rw[h];simp
theorem I3{g:List cx}{s:aj}{k:Int}(aU:g≠[])(hk:0<=k/\k<=4)(h:asked s=true):pH g s k=true:=by
 unfold pH;rw[h,decide_eq_true hk];cases g<;>simp at *
theorem A8{g:List cx}{s:aj}{k:Int}:pH g s k=true↔g≠[]/\(0<=k/\k<=4)/\asked s=true:=by
 constructor
 . intro h;unfold pH at h;simp only[Bool.and_eq_true,decide_eq_true_eq,Bool.not_eq_true',List.isEmpty_eq_false_iff] at h;exact⟨h.1.1,h.1.2,h.2⟩
 . rintro⟨h1,ag,aB⟩;exact I3 h1 ag aB
theorem I4{s:aj}(h:asked s=true):j4 s=true:=by
 unfold asked at h;simp only[Bool.and_eq_true,decide_eq_true_eq] at h;have:=h.1;unfold iN at this;unfold j4;split at this
 . omega
 . exact decide_eq_true bd
theorem ahD{g:List cx}{s:aj}{k:Int}(h:pH g s k=false):([]:List Int)=jj g s k:=by unfold jj;rw[h];rfl
theorem ahE{g:List cx}{s:aj}{k:Int}(h:pH g s k=true):jK s=jj g s k:=by
 unfold jj;rw[if_pos h,jK,if_pos (I4 (A8.1 h).2.2)]
theorem ahF{g:List cx}{s:aj}{k:Int}(h:pH g s k=true):jj g s k=d_ s:=by unfold jj;rw[if_pos h]
theorem ahG{s:aj}(h:asked s=true):(d_ s).length<=16:=by
 have bC:=I4 h;unfold asked at h;simp only[Bool.and_eq_true,decide_eq_true_eq] at h;unfold iN at h;unfold j4 at bC;rw[if_neg (of_decide_eq_true bC)] at h;unfold d_;rw[List.length_map];omega
theorem ahH(g:List cx)(s:aj)(k:Int):(jj g s k).length<=16:=by
 unfold jj;split
 . exact ahG (A8.1 bd).2.2
 . simp
theorem Wm(words:List aj)(q:List Int)(d:Int):(p' words q d).length<=words.length:=List.length_filter_le _ _
theorem ahI{words:List aj}(hd:Deep 12 words)(bk:words.length<=1000):ur words<=500000:=by
 have:(words.map λt=>(hi t).length).sum<=words.length*12:=by
  clear bk
  induction words with
  | nil=>simp
  | cons a l cc =>
   have h1:=hd a di
   have ag:=cc λt a8=>hd t (by simp[a8])
   simp only[List.map_cons,List.sum_cons,List.length_cons]
   omega
 unfold ur;omega
def mA(first:Bool)(after:b6)(batch d:Int)(s:List b6×Bool)(w:aj):(List b6×Bool)×Bool:=
 if first=false/\oq after ⟨d,w⟩=false then(s,!s.2)
 else if (s.1.length:Int)=batch then((s.1,true),false)
 else((s.1++[⟨d,w⟩],s.2),!s.2)
def Ns(words:List aj)(q:List Int)(first:Bool)(after:b6)(batch:Int)(d:Nat):List b6×Bool->List b6×Bool:=λs=>(fq (mA first after batch d) s (p' words q d)).1
def iD(words:List aj)(q:List Int)(first:Bool)(after:b6)(batch:Int):Nat->List b6×Bool
 | 0=>([],false)
 | d+1=>let s:=iD words q first after batch d;if s.2=true then s else Ns words q first after batch d s
def pI(g:List cx)(words:List aj)(s:aj)(k:Int)(first:Bool)(after:b6)(batch:Int):List b6×Bool:=
 if pH g s k=true then((iD words (d_ s) first after (max batch 0) (k.toNat+1)).1,!(iD words (d_ s) first after (max batch 0) (k.toNat+1)).2) else([],true)
end Go.ak
namespace Go.aF
open Go Go.ak
theorem ahJ{F bV:Nat->Prop}{w0 w:World}{R:Nat->Prop}{ar:Nat}(h:∀b,F b->((bV b\/w0.heap.size<=b)/\¬ R b)/\b<w.heap.size)(br:∀b,bV b->False)(p3:ar<=w0.heap.size){c5:Nat}:∀b,c5<=b->b<ar->¬ F b:=λb _ ag ab=>by
 rcases(h b ab).1.1 with aB|aB
 . exact br b aB
 . omega
end Go.aF
namespace Go.ak
open Go.aF
theorem Wn{g:List cx}{words:List aj}{s:aj}{k batch:Int}{first:Bool}{after:b6}(h:pH g s k=false):pI g words s k first after batch=([],true):=by unfold pI;rw[h];rfl
end Go.ak
namespace Go.ak
open Go.aF
theorem xS{after:b6}{batch d:Int}{s:List b6×Bool}{w:aj}(h:oq after ⟨d,w⟩=false):mA false after batch d s w=(s,!s.2):=by unfold mA;rw[if_pos ⟨rfl,h⟩]
theorem xT{first:Bool}{after:b6}{batch d:Int}{s:List b6×Bool}{w:aj}(h:first=true\/oq after ⟨d,w⟩=true)(ab:(s.1.length:Int)=batch):mA first after batch d s w=((s.1,true),false):=by
 unfold mA;rw[if_neg (by rintro⟨h1,ag⟩;rcases h with h|h<;>simp_all),if_pos ab]
theorem xU{first:Bool}{after:b6}{batch d:Int}{s:List b6×Bool}{w:aj}(h:first=true\/oq after ⟨d,w⟩=true)(ab:¬ (s.1.length:Int)=batch):mA first after batch d s w=((s.1++[⟨d,w⟩],s.2),!s.2):=by
 unfold mA;rw[if_neg (by rintro⟨h1,ag⟩;rcases h with h|h<;>simp_all),if_neg ab]
theorem Wo(first:Bool)(after:b6)(batch d:Int)(s:List b6×Bool)(w:aj):(mA first after batch d s w).1.1.length<=s.1.length+1:=by
 unfold mA;split
 . simp
 . split
   . simp
   . simp
theorem Wp(first:Bool)(after:b6)(batch d:Int)(m:Nat):∀(L:List aj) (s:List b6×Bool),s.1.length+L.length<=m->l' (λ(s:List b6×Bool) (_:aj)=>s.1.length<=m) (mA first after batch d) s L
 | [],s,_=>trivial
 | x::L,s,h=>⟨by simp only[List.length_cons] at h;omega,λ_=>Wp first after batch d m L _ (by
  have:=Wo first after batch d s x
  simp only[List.length_cons] at h;omega)⟩
theorem Wq(first:Bool)(after:b6)(batch d:Int):∀(L:List aj) (s:List b6×Bool),(fq (mA first after batch d) s L).1.1.length<=s.1.length+L.length
 | [],s=>by simp[fq]
 | x::L,s=>by
  have h1:=Wo first after batch d s x
  have ag:=Wq first after batch d L (mA first after batch d s x).1
  unfold fq
  split
  . simp only[List.length_cons];omega
  . simp only[List.length_cons];omega
theorem Nt(words:List aj)(q:List Int)(first:Bool)(after:b6)(batch:Int):∀d,(iD words q first after batch d).1.length<=d*words.length
 | 0=>by simp[iD]
 | d+1=>by
  have cc:=Nt words q first after batch d
  unfold iD
  simp only
  split
  . rw[Nat.succ_mul];omega
  . have h1:=Wq first after batch d (p' words q d) (iD words q first after batch d)
    have ag:=Wm words q d
    unfold Ns
    rw[Nat.succ_mul];omega
theorem ahK{words:List aj}{q:List Int}{first:Bool}{after:b6}{batch:Int}{d:Nat}(h:false=(iD words q first after batch d).2):(fq (mA first after batch d) (iD words q first after batch d) (p' words q d)).1=iD words q first after batch (d+1):=by
 conv=>rhs;unfold iD
 simp only;rw[<-h];rfl
theorem Wr{words:List aj}{q:List Int}{first:Bool}{after:b6}{batch:Int}{n:Nat}(h:(iD words q first after batch n).2=true):∀m,iD words q first after batch (n+m)=iD words q first after batch n
 | 0=>rfl
 | m+1=>by
  have cc:=Wr h m
  rw[<-Nat.add_assoc]
  conv=>lhs;unfold iD
  simp only
  rw[cc,if_pos h]
theorem Nu{g:List cx}{words:List aj}{s:aj}{k batch:Int}{first:Bool}{after:b6}(hm:pH g s k=true){n:Nat}(h:(iD words (jj g s k) first after (max batch 0) n).2=true/\(n:Int)<=k+1\/(n:Int)=k+1):
 pI g words s k first after batch=((iD words (jj g s k) first after (max batch 0) n).1,!(iD words (jj g s k) first after (max batch 0) n).2):=by
 have hk:=(A8.1 hm).2.1;unfold pI;rw[if_pos hm,<-ahF hm];rcases h with ⟨h,aN⟩|h
 . have:=Wr h (k.toNat+1-n);rw[show n+(k.toNat+1-n)=k.toNat+1 from by omega] at this;rw[this]
 . rw[show n=k.toNat+1 from by omega]
theorem Ws{g:List cx}{words:List aj}{s:aj}{k batch:Int}{first:Bool}{after:b6}(hm:pH g s k=true){n:Nat}(h:(iD words (jj g s k) first after (max batch 0) n).2=true/\(n:Int)<=k+1\/(n:Int)=k+1){b:Bool}(ab:(iD words (jj g s k) first after (max batch 0) n).2=b):
 (!b)=(pI g words s k first after batch).2:=by rw[Nu hm h,ab]
theorem ahL{g:List cx}{words:List aj}{s:aj}{k batch:Int}{first:Bool}{after:b6}:(pI g words s k first after batch).1.length<=5*words.length:=by
 unfold pI;split
 . have hk:=(A8.1 bd).2.1;have:=Nt words (d_ s) first after (max batch 0) (k.toNat+1)
   have ag:(k.toNat+1)*words.length<=5*words.length:=Nat.mul_le_mul_right _ aa;simp only;omega
 . simp
end Go.ak
namespace Go.aF
open Go Go.ak
def qC{R:Nat->Prop}(rR e tb:TypeId)(e_ e8:Nat)(s:List b6×Bool):dq R:=nN λv:Value=>bl [ay e_ [v] rR,aS eJ e 2 v s.1,ay e8 [.bool s.2] tb]
end Go.aF
namespace Go.ak
open Go.aF
theorem Wt{α:Type}{p:List α->Prop}(bH:p [])(h1:∀l a,p l->p (l++[a])):∀l,p l:=by
 intro l;rw[<-List.reverse_reverse l];generalize l.reverse=r
 induction r with
 | nil=>exact bH
 | cons a r cc=>rw[List.reverse_cons];exact h1 _ _ cc
def rh(a b:List Int):List (List Int):=(List.range (a.length+1)).map λi=>gv b.length (hS b (a.take i))
theorem Nv(a b:List Int):(rh a b).length=a.length+1:=by simp[rh]
theorem Wu{a b:List Int}{i:Nat}{l:List Int}(h:(rh a b)[i]?=some l):l=gv b.length (hS b (a.take i)):=by
 obtain⟨ar,h1⟩:=List.getElem?_eq_some_iff.1 h;rw[Nv] at ar;unfold rh at h;rw[List.getElem?_map,List.getElem?_range ar] at h;simpa using h.symm
theorem Nw{a b:List Int}{n i:Nat}{l:List Int}(h:((rh a b).take n)[i]?=some l):l=gv b.length (hS b (a.take i))/\i<n:=by
 rw[List.getElem?_take] at h;split at h
 . exact⟨Wu h,by assumption⟩
 . cases h
theorem ahM{a b:List Int}{i:Nat}{l:List Int}(ar:i<=a.length)(bk:l=gv b.length (hS b (a.take i))):(rh a b).take i++[l]=(rh a b).take (i+1):=by
 rw[List.take_add_one];congr 1
 unfold rh;rw[List.getElem?_map,List.getElem?_range aa,bk];rfl
theorem ahN{n k:Nat}{f:Nat->Int}{l:List Int}{d:Int}(h:l=(gv n f).take k)(hk:k<=n)(hd:d=f k):l++[d]=(gv n f).take (k+1):=by
 rw[List.take_add_one,h,hd];congr 1
 unfold gv;rw[List.getElem?_map,List.getElem?_range aa];rfl
theorem ahO{n k:Nat}{f:Nat->Int}{l:List Int}(h:l=(gv n f).take k)(hk:n<k):l=gv n f:=by
 rw[h,List.take_of_length_le (by rw[xQ];omega)]
theorem Wv{n k i:Nat}{f:Nat->Int}{x:Int}(h:((gv n f).take k)[i]?=some x):x=f i:=by
 rw[List.getElem?_take] at h;split at h
 . exact(pc h).1
 . cases h
theorem Ww(q p:List Int):hS q p 0=p.length:=by
 refine Wt (p:=λp=>hS q p 0=p.length) rfl (λp r cc=>?_) p;rw[IN];unfold nT;rw[cc];simp
theorem C1(q p:List Int)(i:Nat):0<=hS q p i/\hS q p i<=p.length+i:=by
 have h:=VX q p;have h1:=h.pos i;have ag:=IP h i 0;rw[Ww] at ag;constructor<;>omega
theorem ahP{a b:List Int}{i k:Nat}(ar:i=0):(k:Int)=hS b (a.take i) k:=by subst ar;rfl
theorem ahQ{a b:List Int}{i k:Nat}(hk:k=0)(ar:i<=a.length):(i:Int)=hS b (a.take i) k:=by subst hk;rw[Ww,List.length_take,Nat.min_eq_left ar]
theorem Wx{a b:List Int}{i k j m:Nat}(bn:j+1=i)(hm:m+1=k){r c x y z t:Int}(a':a[j]?=some r)(al:b[m]?=some c)(ah:x=hS b (a.take j) m)(aD:y=hS b (a.take j) k)(cS:z=hS b (a.take i) m)(a8:t=x+if r≠c then 1 else 0):
 min (min t (y+1)) (z+1)=hS b (a.take i) k:=by
 subst bn hm;have h1:a.take (j+1)=a.take j++[r]:=(by rw[List.take_add_one,a'];rfl);rw[h1,IN] at cS ⊢;show _=min (min (hS b (a.take j) (m+1)+1) (nT b (hS b (a.take j)) r m+1)) (hS b (a.take j) m+if b[m]?=some r then 0 else 1);rw[<-ah,<-aD,<-cS,al];by_cases he:r=c
 . rw[if_neg (by simp[he])] at a8;rw[if_pos (by rw[he])];omega
 . rw[if_pos he] at a8;rw[if_neg (by simp;exact λe=>he e.symm)];omega
theorem ahR{a b:List Int}{i j:Nat}(ar:i=a.length)(bn:j=b.length){l:List Int}{x:Int}(bk:l=gv b.length (hS b (a.take i)))(ah:l[j]?=some x):x=vk b a:=by
 subst ar bn;rw[bk] at ah;rw[(pc ah).1,List.take_length];rfl
theorem Nx(q p:List Int):0<=vk q p/\vk q p<=p.length+q.length:=C1 q p q.length
def mB(a b:aj):Int:=if j4 a=true/\j4 b=true then vk (d_ b) (d_ a) else -1
theorem ahS{a b:aj}(h:j4 a=false\/j4 b=false):(-1:Int)=mB a b:=by
 unfold mB;rw[if_neg];rintro⟨h1,ag⟩;rcases h with h|h<;>simp_all
theorem ahT{a b:aj}(h1:j4 a=true)(ag:j4 b=true):vk (jK b) (jK a)=mB a b:=by
 unfold mB jK;rw[if_pos h1,if_pos ag,if_pos ⟨h1,ag⟩]
theorem xV{a b:b6}:oq a b=true↔a.cq<b.cq\/a.cq=b.cq/\Lib.compareBytes a.word b.word<0:=by
 unfold oq Nr;rw[decide_eq_true_eq]
 have I5:oF [pw a.cq b.cq,Lib.compareBytes a.word b.word]=if pw a.cq b.cq≠0 then pw a.cq b.cq else Lib.compareBytes a.word b.word:=by
  simp only[oF]
  split
  . rfl
  . split
    . rfl
    . omega
 rw[I5];unfold pw;by_cases h1:a.cq<b.cq
 . simp[h1]
 . by_cases ag:a.cq>b.cq
   . simp[h1,ag];omega
   . have:a.cq=b.cq:=by omega
     simp[this]
def qD(a b:b6):Prop:=oq a b=true
theorem Wy{a b c:b6}(h1:qD a b)(ag:qD b c):qD a c:=by
 unfold qD at *;rw[xV] at *;rcases h1 with h1|⟨h1,ahU⟩<;>rcases ag with ag|⟨ag,IC⟩
 . exact .inl aa
 . exact .inl aa
 . exact .inl aa
 . exact .inr ⟨by omega,lt_trans ahU IC⟩
theorem Ny{a:b6}(h:qD a a):False:=by
 unfold qD at h;rw[xV] at h;rcases h with h|⟨_,h⟩
 . omega
 . rw[EC] at h;omega
theorem ahV{a b:b6}(h:¬ qD a b)(dL:a≠b):qD b a:=by
 unfold qD at *;rw[xV] at *;have h1:¬ a.cq<b.cq:=λx=>h (.inl x)
 by_cases ag:b.cq<a.cq
 . exact .inl ag
 . have he:b.cq=a.cq:=(by omega);refine .inr ⟨he,?_⟩;have aB:¬ Lib.compareBytes a.word b.word<0:=λx=>h (.inr ⟨he.symm,x⟩)
   have bE:Lib.compareBytes a.word b.word≠0:=λe=>dL (by
    cases a;cases b
    simp only at *
    rw[he,cmp_eq e])
   exact ada aB λe=>bE (by rw[e];exact EC _)
theorem Wz:∀{a b:List b6},a.Pairwise qD->b.Pairwise qD->(∀x,x∈a↔x∈b)->a=b
 | [],[],_,_,_=>rfl
 | [],y::b,_,_,h=>by have:=(h y).2 di;simp at this
 | x::a,[],_,_,h=>by have:=(h x).1 di;simp at this
 | x::a,y::b,ax,ab,h=>by
  rw[List.pairwise_cons] at ax ab
  have Cq:x=y:=by
   by_cases e:x=y
   . exact e
   . exfalso
     have h1:=(h x).1 di
     have ag:=(h y).2 di
     rcases List.mem_cons.1 h1 with h1|h1
     . exact e h1
     . rcases List.mem_cons.1 ag with ag|ag
       . exact e ag.symm
       . exact Ny (Wy (ax.1 y ag) (ab.1 x h1))
  subst Cq
  congr 1
  refine Wz ax.2 ab.2 λz=>?_
  constructor
  . intro cS
    rcases List.mem_cons.1 ((h z).1 (by simp[cS])) with e|e
    . subst e;exact(Ny (ax.1 _ cS)).elim
    . exact e
  . intro cS
    rcases List.mem_cons.1 ((h z).2 (by simp[cS])) with e|e
    . subst e;exact(Ny (ab.1 _ cS)).elim
    . exact e
def pd(x:b6):List b6->List b6
 | []=>[x]
 | y::r=>if oq x y=true then x::y::r else y::pd x r
theorem Fm{x y:b6}:∀{l:List b6},y∈pd x l↔y=x\/y∈l
 | []=>by simp[pd]
 | z::r=>by
  unfold pd
  split
  . simp
  . rw[List.mem_cons,Fm,List.mem_cons]
    constructor
    . rintro(h|h|h)
      . exact .inr (.inl h)
      . exact .inl h
      . exact .inr (.inr h)
    . rintro(h|h|h)
      . exact .inr (.inl h)
      . exact .inl h
      . exact .inr (.inr h)
theorem WA{x:b6}:∀{l:List b6},l.Pairwise qD->x∉l->(pd x l).Pairwise qD
 | [],_,_=>by simp[pd]
 | z::r,h,ah=>by
  rw[List.pairwise_cons] at h
  unfold pd
  split
  . rename_i bk
    refine List.pairwise_cons.2 ⟨λy aD=>?_,List.pairwise_cons.2 h⟩
    rcases List.mem_cons.1 aD with rfl|aD
    . exact bk
    . exact Wy bk (h.1 y aD)
  . rename_i bk
    refine List.pairwise_cons.2 ⟨λy aD=>?_,WA h.2 λhm=>ah (by simp[hm])⟩
    rcases Fm.1 aD with rfl|aD
    . exact ahV bk λe=>ah (by simp[e])
    . exact h.1 y aD
theorem Nz(x:b6):∀(l:List b6),(pd x l).length=l.length+1
 | []=>rfl
 | z::r=>by
  unfold pd
  split
  . simp
  . simp[Nz x r]
def pJ(l:List b6)(x:b6)(k:Nat)(out:List b6)(b:Bool):Prop:=pd x l=out++(if b=true then l.drop k else pd x (l.drop k))/\out.length=k+if b=true then 1 else 0
theorem pJ.start(l:List b6)(x:b6):pJ l x 0 [] false:=⟨by simp,by simp⟩
theorem pJ.here{l:List b6}{x y:b6}{k:Nat}{out:List b6}(h:pJ l x k out false)(ah:l[k]?=some y)(bk:oq x y=true):pJ l x (k+1) (out++[x]++[y]) true:=by
 obtain⟨h1,ag⟩:=h;refine⟨?_,by simp at ag ⊢;omega⟩;rw[h1,if_neg di,if_pos rfl,wq ah]
 conv=>lhs;unfold pd
 rw[if_pos bk];simp
theorem pJ.ahW{l:List b6}{x y:b6}{k:Nat}{out:List b6}(h:pJ l x k out false)(ah:l[k]?=some y)(bk:oq x y=false):pJ l x (k+1) (out++[y]) false:=by
 obtain⟨h1,ag⟩:=h;refine⟨?_,by simp at ag ⊢;omega⟩;rw[h1,if_neg di,if_neg di,wq ah]
 conv=>lhs;unfold pd
 rw[if_neg (by simp[bk])];simp
theorem pJ.next{l:List b6}{x y:b6}{k:Nat}{out:List b6}(h:pJ l x k out true)(ah:l[k]?=some y):pJ l x (k+1) (out++[y]) true:=by
 obtain⟨h1,ag⟩:=h;refine⟨?_,by simp at ag ⊢;omega⟩;rw[h1,if_pos rfl,if_pos rfl,wq ah];simp
theorem pJ.WB{l:List b6}{x:b6}{k:Nat}{out:List b6}(h:pJ l x k out false)(hk:l.length<=k):out++[x]=pd x l:=by
 obtain⟨h1,_⟩:=h;rw[h1,if_neg di,List.drop_of_length_le hk];rfl
theorem pJ.WC{l:List b6}{x:b6}{k:Nat}{out:List b6}(h:pJ l x k out true)(hk:l.length<=k):out=pd x l:=by
 obtain⟨h1,_⟩:=h;rw[h1,if_pos rfl,List.drop_of_length_le hk];simp
def pe(s:aj)(k:Int)(out:List b6)(w:aj):List b6:=if 0<=mB w s/\mB w s<=k then pd ⟨mB w s,w⟩ out else out
def mR(words:List aj)(s:aj)(k:Int):List b6:=words.foldl (pe s k) []
theorem WD{words:List aj}{s:aj}{k:Int}{i:Nat}{w:aj}(hw:words[i]?=some w):(words.take (i+1)).foldl (pe s k) []=pe s k ((words.take i).foldl (pe s k) []) w:=by
 rw[List.take_add_one,hw,List.foldl_append];rfl
theorem WE{s:aj}{k:Int}{out:List b6}{w:aj}(h:0<=mB w s)(ag:mB w s<=k):pe s k out w=pd ⟨mB w s,w⟩ out:=by unfold pe;rw[if_pos ⟨h,ag⟩]
theorem WG{s:aj}{k:Int}{out:List b6}{w:aj}(h:¬ (0<=mB w s/\mB w s<=k)):pe s k out w=out:=by unfold pe;rw[if_neg h]
theorem ahX{s:aj}{k:Int}:∀{words:List aj},words.Nodup->(mR words s k).Pairwise qD/\∀x,x∈mR words s k↔x.word∈words/\x.cq=mB x.word s/\0<=x.cq/\x.cq<=k:=by
 intro words;unfold mR;refine Wt (p:=λwords=>words.Nodup->(words.foldl (pe s k) []).Pairwise qD/\∀x,x∈words.foldl (pe s k) []↔x.word∈words/\x.cq=mB x.word s/\0<=x.cq/\x.cq<=k) ?_ ?_ words
 . intro _;simp
 . intro l w cc aN;rw[List.nodup_append] at aN;obtain⟨h1,_,aB⟩:=aN;obtain⟨rM,i2⟩:=cc h1;have hw:w∉l:=λh=>aB w h w di rfl
   rw[List.foldl_append];show(pe s k (l.foldl (pe s k) []) w).Pairwise qD/\∀x,x∈pe s k (l.foldl (pe s k) []) w↔_;by_cases al:0<=mB w s/\mB w s<=k
   . rw[WE al.1 al.2];refine⟨WA rM λh=>hw ((i2 _).1 h).1,λx=>?_⟩;rw[Fm,i2];constructor
     . rintro(rfl|⟨h1,ag⟩)
       . exact⟨by simp,rfl,al.1,al.2⟩
       . exact⟨by simp[h1],ag⟩
     . rintro⟨h1,ag,bE⟩;rcases List.mem_append.1 h1 with h1|h1
       . exact .inr ⟨h1,ag,bE⟩
       . simp only[List.mem_singleton] at h1;refine .inl ?_;cases x;simp only at *;subst h1;rw[ag]
   . rw[WG al];refine⟨rM,λx=>?_⟩;rw[i2];constructor
     . rintro⟨h1,ag⟩;exact⟨by simp[h1],ag⟩
     . rintro⟨h1,ag,bE⟩;rcases List.mem_append.1 h1 with h1|h1
       . exact⟨h1,ag,bE⟩
       . simp only[List.mem_singleton] at h1;rw[h1] at ag;exact absurd ⟨by rw[<-ag];exact bE.1,by rw[<-ag];exact bE.2⟩ al
theorem WH(words:List aj)(s:aj)(k:Int):(mR words s k).length<=words.length:=by
 unfold mR
 have:∀(l:List aj) (out:List b6),(l.foldl (pe s k) out).length<=out.length+l.length:=by
  intro l
  induction l with
  | nil=>simp
  | cons w l cc =>
   intro out
   have:=cc (pe s k out w)
   rw[List.foldl_cons,List.length_cons]
   unfold pe at this ⊢
   split at this
   . rw[if_pos bd];rw[Nz] at this;omega
   . rw[if_neg bd];omega
 simpa using this words []
def tu(words:List aj)(q:List Int)(n:Nat):List b6:=(List.range n).flatMap λ(d:Nat)=>(p' words q d).map λw=>b6.mk (d:Int) w
theorem WI(words:List aj)(q:List Int)(n:Nat):tu words q (n+1)=tu words q n++(p' words q n).map λw=>b6.mk (n:Int) w:=by unfold tu;rw[List.range_succ,List.flatMap_append];simp
theorem WJ{words:List aj}{q:List Int}{n:Nat}{x:b6}:x∈tu words q n↔x.word∈words/\x.cq=vk q (d_ x.word)/\x.cq<n:=by
 unfold tu;rw[List.mem_flatMap];constructor
 . rintro⟨d,hd,ah⟩;obtain⟨w,hw,rfl⟩:=List.mem_map.1 ah;unfold p' vl at hw;obtain⟨h1,ag⟩:=List.mem_filter.1 hw;have:=of_decide_eq_true ag;have:=List.mem_range.1 hd;exact⟨h1,by simp only;omega,by simp only;omega⟩
 . rintro⟨h1,ag,aB⟩;have:=(Nx q (d_ x.word)).1;refine⟨x.cq.toNat,List.mem_range.2 aa,List.mem_map.2 ⟨x.word,List.mem_filter.2 ⟨h1,by unfold vl;exact decide_eq_true aa⟩,?_⟩⟩;cases x;simp only at *;congr 1;omega
theorem WK{words:List aj}{q:List Int}(aT:o6 words):∀n,(tu words q n).Pairwise qD
 | 0=>by simp[tu]
 | n+1=>by
  rw[WI,List.pairwise_append]
  refine⟨WK aT n,?_,λa ax b ab=>?_⟩
  . rw[List.pairwise_map]
    refine(aT.filter _).imp λ{a b} mL=>?_
    exact xV.2 (.inr ⟨rfl,mL⟩)
  . obtain⟨w,_,rfl⟩:=List.mem_map.1 ab
    exact xV.2 (.inl (by have:=(WJ.1 ax).2.2;simp only;omega))
theorem WL{w s:aj}(h1:j4 w=true)(ag:j4 s=true):mB w s=vk (d_ s) (d_ w):=by unfold mB;rw[if_pos ⟨h1,ag⟩]
theorem ahY{words:List aj}{s:aj}{k:Int}(aT:o6 words)(bC:∀w∈words,j4 w=true)(qu:j4 s=true)(hk:0<=k):mR words s k=tu words (d_ s) (k.toNat+1):=by
 obtain⟨h1,ag⟩:=ahX (s:=s) (k:=k) (aeb aT);refine Wz h1 (WK aT _) λx=>?_
 rw[ag,WJ];constructor
 . rintro⟨aB,bE,c3,eX⟩;rw[WL (bC _ aB) qu] at bE;exact⟨aB,bE,by omega⟩
 . rintro⟨aB,bE,c3⟩;have:=(Nx (d_ s) (d_ x.word)).1;rw[WL (bC _ aB) qu];exact⟨aB,bE,by omega,by omega⟩
def ot(first:Bool)(after:b6)(x:b6):Bool:=first || oq after x
def kb(words:List aj)(s:aj)(k:Int)(first:Bool)(after:b6)(batch:Int):List b6×Bool:=
 if asked s=true/\0<=k/\k<=4 then
  let rest:=(mR words s k).filter (ot first after)
  (rest.take (min (max batch 0) rest.length).toNat,decide (min (max batch 0) (rest.length:Int)=rest.length))
 else([],true)
theorem NA{first:Bool}{after:b6}{B:Nat}{d:Int}:∀(L:List aj) (X:List b6),X.length<=B->(fq (mA first after B d) (X,false) L).1=((X++(L.map (b6.mk d)).filter (ot first after)).take B,decide (B<(X++(L.map (b6.mk d)).filter (ot first after)).length))
 | [],X,h=>by simp[fq,List.take_of_length_le h];omega
 | w::L,X,h=>by
  rw[List.map_cons]
  by_cases al:ot first after ⟨d,w⟩=true
  . rw[List.filter_cons_of_pos al]
    have I5:first=true\/oq after ⟨d,w⟩=true:=by unfold ot at al;simpa using al
    by_cases ab:(X.length:Int)=B
    . unfold fq
      rw[xT I5 ab,if_neg di]
      have:X.length=B:=by omega
      simp only
      rw[List.take_append_of_le_length aa,List.take_of_length_le aa]
      congr 1
      symm
      rw[decide_eq_true_eq]
      simp only[List.length_append,List.length_cons];omega
    . unfold fq
      rw[xU I5 ab,if_pos di]
      show(fq (mA first after B d) (X++[⟨d,w⟩],false) L).1=_
      rw[NA (first:=first) (after:=after) (d:=d) (B:=B) L (X++[b6.mk d w]) (by simp only[List.length_append,List.length_cons,List.length_nil];omega)]
      simp
  . have WM:ot first after ⟨d,w⟩=false:=by simpa using al
    rw[List.filter_cons_of_neg al]
    unfold ot at WM
    obtain⟨bC,bk⟩:first=false/\oq after ⟨d,w⟩=false:=by simpa using WM
    subst bC
    unfold fq
    rw[xS bk,if_pos di]
    exact NA (B:=B) L X h
theorem WN{words:List aj}{q:List Int}{first:Bool}{after:b6}{B:Nat}:∀n,iD words q first after B n=(((tu words q n).filter (ot first after)).take B,decide (B<((tu words q n).filter (ot first after)).length))
 | 0=>by simp[iD,tu]
 | n+1=>by
  have cc:=WN (words:=words) (q:=q) (first:=first) (after:=after) (B:=B) n
  unfold iD
  simp only
  rw[cc,WI,List.filter_append]
  simp only
  by_cases hm:B<((tu words q n).filter (ot first after)).length
  . rw[if_pos (decide_eq_true hm)]
    rw[List.take_append_of_le_length aa]
    congr 1
    rw[decide_eq_true hm,eq_comm,decide_eq_true_eq,List.length_append];omega
  . rw[if_neg (by simpa using hm)]
    unfold Ns
    rw[List.take_of_length_le aa,decide_eq_false hm,NA (B:=B) _ _ aa]
theorem ahZ{g:List cx}{words:List aj}{s:aj}{k:Int}{first:Bool}{after:b6}{batch:Int}(aU:g≠[])(aT:o6 words)(bC:∀w∈words,j4 w=true):pI g words s k first after batch=kb words s k first after batch:=by
 unfold pI kb;by_cases al:asked s=true/\0<=k/\k<=4
 . rw[if_pos (I3 aU al.2 al.1),if_pos al];simp only;rw[ahY aT bC (I4 al.1) al.2.1];have ft:max batch 0=((max batch 0).toNat:Int):=(by omega);rw[ft,WN];simp only;generalize (tu words (d_ s) (k.toNat+1)).filter (ot first after)=R;congr 1
   . by_cases h:(max batch 0).toNat<=R.length
     . congr 1;omega
     . rw[List.take_of_length_le aa,List.take_of_length_le aa]
   . by_cases h:(max batch 0).toNat<R.length
     . rw[decide_eq_true h,decide_eq_false aa];rfl
     . rw[decide_eq_false h,decide_eq_true aa];rfl
 . rw[if_neg (λh=>al ⟨(A8.1 h).2.2,(A8.1 h).2.1⟩),if_neg al]
end Go.ak
namespace Go.ak
open Go.aF
theorem ah0(a b:aj):-1<=mB a b/\mB a b<=(d_ a).length+(d_ b).length:=by
 unfold mB;split
 . have:=Nx (d_ b) (d_ a);omega
 . omega
theorem ah1{a b:b6}(h1:¬ a.cq<b.cq)(ag:¬ a.cq=b.cq):false=oq a b:=by
 cases h:oq a b with
 | false=>rfl
 | true=>rw[xV] at h;rcases h with h|h;exact absurd h h1;exact absurd h.1 ag
theorem ah2{a b:b6}{c:Bool}(ag:a.cq=b.cq)(h:c=decide (Lib.compareBytes a.word b.word<0)):c=oq a b:=by
 cases gO:oq a b with
 | true =>
  rw[xV] at gO;rcases gO with gO|gO
  . omega
  . rw[h];exact decide_eq_true gO.2
 | false =>
  rw[h];refine decide_eq_false λah=>?_
  have:=xV.2 (.inr ⟨ag,ah⟩);rw[gO] at this;cases this
theorem ah3{x:b6}{l:List b6}{n:Nat}(h:∀y∈l,y.word.length<=n)(ah:x.word.length<=n):∀y∈pd x l,y.word.length<=n:=λy aD=>by
 rcases Fm.1 aD with rfl|aD
 . exact ah
 . exact h y aD
theorem ah4{words:List aj}{s:aj}{k:Int}:∀x∈mR words s k,x.word∈words:=by
 unfold mR
 have:∀(l:List aj) (out:List b6),∀x∈l.foldl (pe s k) out,x∈out\/x.word∈l:=by
  intro l
  induction l with
  | nil=>intro out x ah;exact .inl ah
  | cons w l cc =>
   intro out x ah
   rw[List.foldl_cons] at ah
   rcases cc _ x ah with h|h
   . unfold pe at h
     split at h
     . rcases Fm.1 h with rfl|h
       . exact .inr di
       . exact .inl h
     . exact .inl h
   . exact .inr (by simp[h])
 intro x ah;rcases this words [] x ah with h|h
 . simp at h
 . exact h
theorem ah5{words:List aj}{s:aj}{k:Int}(h:∀w∈words,w.length<=1000):∀x∈mR words s k,x.word.length<=1000:=λx ah=>h _ (ah4 x ah)
theorem WO{α:Type}{l:List α}{p:α->Bool}{i:Nat}{x:α}(ah:l[i]?=some x):(l.take (i+1)).filter p=(l.take i).filter p++if p x=true then[x] else[]:=by
 rw[List.take_add_one,ah,List.filter_append];congr 1
 by_cases h:p x=true<;>simp[h]
theorem ah6{l rest:List b6}{first:Bool}{after x:b6}{i:Nat}(h:rest=(l.take i).filter (ot first after))(ah:l[i]?=some x)(al:first=true\/oq after x=true):rest++[x]=(l.take (i+1)).filter (ot first after):=by
 rw[WO ah,<-h,if_pos (by unfold ot;rcases al with h|h<;>simp[h])]
theorem ah7{l rest:List b6}{first:Bool}{after x:b6}{i:Nat}(h:rest=(l.take i).filter (ot first after))(ah:l[i]?=some x)(bC:first=false)(al:oq after x=false):rest=(l.take (i+1)).filter (ot first after):=by
 rw[WO ah,<-h,if_neg (by unfold ot;simp[bC,al])];simp
section
variable {words:List aj} {s:aj} {k batch:Int} {first:Bool} {after:b6} {rest:List b6} {i:Nat}
theorem I6(h:¬ (asked s=true/\0<=k/\k<=4)):kb words s k first after batch=([],true):=by unfold kb;rw[if_neg h]
theorem ah8(h:k<0\/k>4):[]=(kb words s k first after batch).1:=by rw[I6 (λx=>by omega)]
theorem ah9(h:asked s=false):[]=(kb words s k first after batch).1:=by rw[I6 (λx=>by simp[h] at x)]
theorem ah_(h:k<0\/k>4):true=(kb words s k first after batch).2:=by rw[I6 (λx=>by omega)]
theorem ah'(h:asked s=false):true=(kb words s k first after batch).2:=by rw[I6 (λx=>by simp[h] at x)]
theorem WQ(h:rest=((mR words s k).take i).filter (ot first after))(ar:(mR words s k).length<=i)(ax:asked s=true)(hk:0<=k/\k<=4):kb words s k first after batch=(rest.take (min (max batch 0) rest.length).toNat,decide (min (max batch 0) (rest.length:Int)=rest.length)):=by
 unfold kb;rw[List.take_of_length_le ar] at h;rw[if_pos ⟨ax,hk⟩,<-h]
theorem aia(h:rest=((mR words s k).take i).filter (ot first after))(ar:(mR words s k).length<=i)(ax:asked s=true)(hk:0<=k/\k<=4):rest.take (min (max batch 0) rest.length).toNat=(kb words s k first after batch).1:=by rw[WQ h ar ax hk]
theorem aib{b:Bool}(h:rest=((mR words s k).take i).filter (ot first after))(ar:(mR words s k).length<=i)(ax:asked s=true)(hk:0<=k/\k<=4)(ab:b=decide (min (max batch 0) (rest.length:Int)=rest.length)):b=(kb words s k first after batch).2:=by rw[WQ h ar ax hk,ab]
theorem asa(words:List aj)(s:aj)(k:Int)(first:Bool)(after:b6)(batch:Int):(kb words s k first after batch).1.length<=words.length:=by
 unfold kb;split
 . have h1:=WH words s k;have ag:=List.length_filter_le (ot first after) (mR words s k);simp only[List.length_take];omega
 . simp
end
end Go.ak
theorem Go.ak.pJ.len{l:List Go.ak.b6}{x:Go.ak.b6}{k:Nat}{out:List Go.ak.b6}{b:Bool}(h:Go.ak.pJ l x k out b):out.length<=k+1:=by
 have:=h.2;split at this<;>omega
theorem Go.ak.WR(words:List Go.aF.aj)(s:Go.aF.aj)(k:Int)(h:∀w∈words,w.length<=1000):∀x∈Go.ak.mR words s k,x.word.length<=1000:=Go.ak.ah5 h
set_option linter.unusedSectionVars false
namespace Go.aF
open Go Go.MapKept
section
variable {P:Program} {E:Env} {C:World->Prop} {d:Option Tmp} {ty:TypeId} {pos:String} {af:Array Edge} {gd:Option (Nat×Bool)} {w:World} {K:Value->World->Prop}
variable {α β:Type} [DecidableEq α] {key:α->Value} {val:β->Value} {kind:TypeDesc}
def lD:List (α×β)->α->β->List (α×β)
 | [],a,u=>[(a,u)]
 | p::m,a,u=>if p.1=a then(a,u)::m else p::lD m a u
def mf:List (α×β)->α->List (α×β)
 | [],_=>[]
 | p::m,a=>if p.1=a then m else p::mf m a
def kQ(key:α->Value)(val:β->Value)(w:World)(b:Nat)(m:List (α×β)):Prop:=
 ∃es clock,w.heap[b]?=some (.map es clock)/\Stamped es clock/\es.toList.map (λe=>(e.key,e.val))=m.map λp=>(key p.1,val p.2)
theorem kQ.o{b:Nat}{m:List (α×β)}(h:kQ key val w b m):nk key val w b m:=by
 obtain⟨es,c,h1,_,ag⟩:=h;exact⟨es,c,h1,ag⟩
theorem kQ.lt{b:Nat}{m:List (α×β)}(h:kQ key val w b m):b<w.heap.size:=h.o.lt
theorem kQ.keep{M:Nat->Prop}{an:World}{b:Nat}{m:List (α×β)}(h:kQ key val w b m)(hm:Mod M w an)(ab:¬ M b):kQ key val an b m:=by
 obtain⟨es,c,h1,ag,aB⟩:=h;exact⟨es,c,hm.keep _ _ h1 ab,ag,aB⟩
structure WS(P:Program)(e4:TypeId)(key:α->Value):Prop extends KeyOk P e4 key where
 bits:∀a,Instr.sameBits 10000 (key a) (key a)=true
theorem aic{e4:TypeId}(h:P.underlying e4=some (.int .i64)):WS P e4 fB:=⟨u_ h,λa=>by simp[fB,Instr.sameBits]⟩
theorem KeyOk.inj{e4:TypeId}(h:KeyOk P e4 key){a b:α}(e:key a=key b):a=b:=by
 obtain⟨kind,_,aT⟩:=h.same;have h1:=aT b a;rw[e] at h1;rw[aT b b] at h1;simp only[Option.some.injEq,decide_true] at h1;exact(of_decide_eq_true h1.symm).symm
theorem aid(a:α):gz ([]:List (α×β)) a=none:=rfl
theorem qb(p:α×β)(m:List (α×β))(a:α):gz (p::m) a=if p.1=a then some p.2 else gz m a:=by
 unfold gz;rw[List.find?_cons];by_cases h:p.1=a
 . simp[h]
 . simp[h]
theorem WT(aT:∀a b:α,Instr.sameNow kind (key a) (key b)=some (decide (a=b)))(a:α):∀(es:List MapEntry) (m:List (α×β)) (i:Nat),es.map (λe=>(e.key,e.val))=m.map (λp=>(key p.1,val p.2)) ->
 (gz m a=none/\Instr.findNow kind (key a) es i=some none/\(∀u,lD m a u=m++[(a,u)])/\mf m a=m/\∀p∈m,p.1≠a) \/
 (∃j eS j_,gz m a=some eS/\es[j]?=some j_/\j_.key=key a/\Instr.findNow kind (key a) es i=some (some (i+j,val eS)) /\
  (∀u,(es.modify j λe=>{ e with key:=key a,val:=val u }).map (λe=>(e.key,e.val))=(lD m a u).map λp=>(key p.1,val p.2)) /\
  (es.eraseIdx j).map (λe=>(e.key,e.val))=(mf m a).map λp=>(key p.1,val p.2))
 | [],m,i,h=>by
  cases m with
  | nil=>exact .inl ⟨rfl,rfl,λ_=>rfl,rfl,by simp⟩
  | cons _ _=>simp at h
 | e::es,m,i,h=>by
  cases m with
  | nil=>simp at h
  | cons p m =>
   simp only[List.map_cons,List.cons.injEq,Prod.mk.injEq] at h
   obtain⟨⟨h1,ag⟩,aB⟩:=h
   by_cases hp:p.1=a
   . refine .inr ⟨0,p.2,e,?_,rfl,by rw[h1,hp],?_,λu=>?_,?_⟩
     . rw[qb,if_pos hp]
     . unfold Instr.findNow
       rw[h1,aT a p.1,decide_eq_true hp.symm,ag];rfl
     . simp[lD,hp,aB]
     . simp[mf,hp,aB]
   . have AJ:¬ (a=p.1):=λe=>hp e.symm
     rcases WT aT a es m (i+1) aB with ⟨d',q2,fF,gA,hT⟩|⟨j,eS,j_,d',q2,fF,gA,hT,oL⟩
     . refine .inl ⟨?_,?_,λu=>?_,?_,?_⟩
       . rw[qb,if_neg hp];exact d'
       . unfold Instr.findNow
         rw[h1,aT a p.1,decide_eq_false AJ];exact q2
       . simp[lD,hp,fF]
       . simp[mf,hp,gA]
       . intro x ah
         rcases List.mem_cons.1 ah with rfl|ah
         . exact hp
         . exact hT x ah
     . refine .inr ⟨j+1,eS,j_,?_,q2,fF,?_,λu=>?_,?_⟩
       . rw[qb,if_neg hp];exact d'
       . unfold Instr.findNow
         rw[h1,aT a p.1,decide_eq_false AJ]
         simp only[gA]
         congr 3;omega
       . simp[lD,hp,h1,ag,hT]
       . simp[mf,hp,h1,ag,oL]
theorem aie{e4:TypeId}(hk:KeyOk P e4 key)(a:α){es:Array MapEntry}{m:List (α×β)}(h:es.toList.map (λe=>(e.key,e.val))=m.map (λp=>(key p.1,val p.2)))(w:World):
 (gz m a=none/\(Instr.findKey e4 (key a) es.toList).run P w=.ok none w/\(∀u,lD m a u=m++[(a,u)])/\mf m a=m/\∀x∈es.toList,x.key≠key a) \/
 (∃j eS j_,gz m a=some eS/\es[j]?=some j_/\j_.key=key a/\(Instr.findKey e4 (key a) es.toList).run P w=.ok (some (j,val eS)) w /\
  (∀u,(es.modify j λe=>{ e with key:=key a,val:=val u }).toList.map (λe=>(e.key,e.val))=(lD m a u).map λp=>(key p.1,val p.2)) /\
  (es.eraseIdxIfInBounds j).toList.map (λe=>(e.key,e.val))=(mf m a).map λp=>(key p.1,val p.2)):=by
 obtain⟨kind,hu,aT⟩:=hk.same;rcases WT aT a es.toList m 0 h with ⟨d',q2,fF,gA,hT⟩|⟨j,eS,j_,d',q2,fF,gA,hT,oL⟩
 . refine .inl ⟨d',?_,fF,gA,λx ah e=>?_⟩
   . unfold Instr.findKey;simp only[Sem.run_bind,run_underlying hu,Result.andThen_ok,q2,Sem.run_pure]
   . have:(x.key,x.val)∈m.map (λp=>(key p.1,val p.2)):=by
      rw[<-h];exact List.mem_map.2 ⟨x,ah,rfl⟩
     obtain⟨p,hp,he⟩:=List.mem_map.1 this;simp only[Prod.mk.injEq] at he;exact hT p hp (hk.inj (he.1.trans e))
 . rw[Array.getElem?_toList] at q2;have bn:j<es.size:=(Array.getElem?_eq_some_iff.1 q2).1;refine .inr ⟨j,eS,j_,d',q2,fF,?_,λu=>?_,?_⟩
   . unfold Instr.findKey;simp only[Sem.run_bind,run_underlying hu,Result.andThen_ok,gA,Sem.run_pure,Nat.zero_add]
   . rw[Array.toList_modify];exact hT u
   . unfold Array.eraseIdxIfInBounds;rw[dif_pos bn,Array.toList_eraseIdx];exact oL
theorem C2{w:World}{b:Nat}{o L':Obj}(h:w.heap[b]?=some o):(w.heap.setIfInBounds b L')[b]?=some L':=by
 have:=(Array.getElem?_eq_some_iff.1 h).1;simp[this]
theorem gF.aif{t e4 jo:TypeId}{x y z:Operand}{b:Nat}{m:List (α×β)}(a:α)(u:β)(hk:WS P e4 key)(a8:P.underlying t=some (.map e4 jo))(ah:aP E x=some (.map (some b)))(aD:aP E y=some (key a))(cS:aP E z=some (val u))(hm:kQ key val w b m)
 (eC:∀an,Mod (ca (b+1)) w an->an.heap.size=w.heap.size->kQ key val an b (lD m a u)->K undef an):gF P ⟨d,.mapUpdate t x y z,ty,pos,af,gd⟩ E w K:=λs ax=>by
 obtain⟨es,c,h1,ag,aB⟩:=hm
 have aU:=yU (P:=P) h1
 rcases aie (P:=P) hk.toKeyOk a aB w with ⟨d',q2,fF,gA,hT⟩|⟨j,eS,j_,d',q2,fF,gA,hT,oL⟩
 . have h:=eC _ (AK w b (.map (es.push { key:=key a,val:=val u,born:=c }) (c+1))) di ⟨es.push { key:=key a,val:=val u,born:=c },c+1,C2 h1,stamped_push ag hT,by
    rw[fF u];simp[aB]⟩
   simp[execOp,ax.aP ah,ax.aP aD,ax.aP cS,Instr.mapUpdate,run_underlying a8,aU,hk.q4,q2,setObj,Sem.run,h1,out]
   exact h
 . have mK:Stamped (es.modify j λe=>{ e with key:=key a,val:=val u }) c:=stamped_modify ag j _ (λ_ _=>rfl) λe _ he=>by
    rw[q2] at he;cases he;exact fF.symm
   have h:=eC _ (AK w b (.map (es.modify j λe=>{ e with key:=key a,val:=val u }) c)) di ⟨_,c,C2 h1,mK,hT u⟩
   have lf:Instr.keyThatStays (key a) (key a)=(pure (key a):Sem Value):=by
    unfold Instr.keyThatStays;rw[if_pos (hk.bits a)]
   simp[execOp,ax.aP ah,ax.aP aD,ax.aP cS,Instr.mapUpdate,run_underlying a8,aU,hk.q4,gA,q2,fF,lf,setObj,Sem.run,h1,out]
   exact h
theorem gF.WU{t:TypeId}(eC:∀an b,Ext w an->b=w.heap.size->an.heap.size=w.heap.size+1->kQ key val an b []->K (.map (some b)) an):gF P ⟨d,.makeMap t none,ty,pos,af,gd⟩ E w K:=λs ax=>by
 have h:=eC (w.alloc (.map #[] 0)) w.heap.size (Mod.alloc _ _ _) rfl di ⟨#[],0,by
  show(w.heap.push _)[w.heap.size]?=_
  simp,stamped_empty 0,by simp⟩
 simp[execOp,Instr.makeMap,newObj,Sem.run,out]
 exact h
end
section
variable {R:Nat->Prop}
def jk{α β:Type}[DecidableEq α](key:α->Value)(val:β->Value)(b:Nat)(m:List (α×β)):dq R:=⟨λF w=>kQ key val w b m/\F b,λh hm br _=>⟨h.1.keep hm (br b h.2),h.2⟩⟩
variable {bV:Nat->Prop} {w0 w an:World} {L:List (dq R)} {i:Nat}
theorem au.mp{α β:Type}[DecidableEq α]{key:α->Value}{val:β->Value}{b:Nat}{m:List (α×β)}(h:au R bV w0 w L)(ar:L[i]?=some (jk key val b m)):kQ key val w b m:=by
 obtain⟨F,h1,_⟩:=h.get ar;exact h1.1
theorem au.C3{α β:Type}[DecidableEq α]{key:α->Value}{val:β->Value}{b:Nat}{m s6:List (α×β)}(h:au R bV w0 w L)(ar:L[i]?=some (jk key val b m))(hm:Mod (ca (b+1)) w an)(hk:kQ key val an b s6):au R bV w0 an (L.set i (jk key val b s6)):=by
 obtain⟨F,h1,ag,k⟩:=h.act ar;exact k an F _ (Mm hm h1.2) ⟨hk,h1.2⟩ λb ab=>⟨Nat.lt_of_lt_of_le (ag b ab).2 hm.size,.inl ab⟩
theorem au.WV{α β:Type}[DecidableEq α]{key:α->Value}{val:β->Value}{b:Nat}{m:List (α×β)}(h:au R bV w0 w L)(hm:Ext w an)(ab:b=w.heap.size)(hk:kQ key val an b m):au R bV w0 an (L++[jk key val b m]):=
 h.new (F:=λx=>x=b) hm ⟨hk,rfl⟩ λx ah=>by have:=hk.lt;omega
end
end Go.aF
set_option linter.unusedSectionVars false
namespace Go.aF
open Go
section
variable {P:Program} {E:Env} {C:World->Prop} {d:Option Tmp} {ty:TypeId} {pos:String} {af:Array Edge} {gd:Option (Nat×Bool)} {w:World} {K:Value->World->Prop}
def vn:Option TypeDesc->Bool
 | some (.interface _)=>false
 | some _=>true
 | none=>false
theorem bz.mkIf{t:TypeId}{x:Operand}{v:Value}(a8:vn (P.underlying t)=true)(ah:aP E x=some v):bz P ⟨d,.makeInterface t x,ty,pos,af,gd⟩ E C (.iface t v):=λs ax w _=>by
 cases hd:P.underlying t with
 | none=>rw[hd] at a8;cases a8
 | some q=>cases q<;>simp_all[execOp,ax.aP ah,Instr.makeInterface,run_underlying hd,vn]
theorem bz.pK{xt t:TypeId}{x:Operand}{v:Value}(a8:vn (P.underlying t)=true)(ah:aP E x=some (.iface t v)):bz P ⟨d,.typeAssert x xt t true,ty,pos,af,gd⟩ E C (.tuple #[v,.bool true]):=λs ax w _=>by
 cases hd:P.underlying t with
 | none=>rw[hd] at a8;cases a8
 | some q=>cases q<;>simp_all[execOp,ax.aP ah,Instr.typeAssert,run_underlying hd,vn]
theorem bz.iw{xt t u:TypeId}{x:Operand}{v z:Value}(a8:vn (P.underlying t)=true)(ah:aP E x=some (.iface u v))(dL:u≠t)(cS:∀w,(zeroValue t).run P w=.ok z w):bz P ⟨d,.typeAssert x xt t true,ty,pos,af,gd⟩ E C (.tuple #[z,.bool false]):=λs ax w _=>by
 cases hd:P.underlying t with
 | none=>rw[hd] at a8;cases a8
 | some q=>cases q<;>simp_all[execOp,ax.aP ah,Instr.typeAssert,run_underlying hd,vn]
end
end Go.aF
namespace Go.aF
open Go Go.MapKept
section
variable {P:Program} {E:Env} {C:World->Prop} {d:Option Tmp} {ty:TypeId} {pos:String} {af:Array Edge} {gd:Option (Nat×Bool)} {w:World} {K:Value->World->Prop}
variable {α β:Type} [DecidableEq α] {key:α->Value} {val:β->Value}
structure uu(P:Program)(e4:TypeId)(key:α->Value):Prop where
 q4:∀(e:Bool) (a:α) (w:World),(Instr.checkKey e 10000 e4 (key a)).run P w=.ok () w
 bits:∀a,Instr.sameBits 10000 (key a) (key a)=true
 aih:∃kind,P.underlying e4=some kind/\∀a b:α,Instr.sameNow kind (key a) (key b)=none
 eq:∀(a b:α) (w:World),(Op.equal e4 (key a) (key b)).run P w=.ok (decide (a=b)) w
theorem uu.inj{e4:TypeId}(h:uu P e4 key){a b:α}(e:key a=key b):a=b:=by
 have h1:=h.eq a b default;rw[e,h.eq b b] at h1;simp only[Result.ok.injEq,decide_true] at h1;exact of_decide_eq_true h1.1.symm
theorem WW{e4:TypeId}(hk:uu P e4 key)(a:α)(w:World):∀(es:List MapEntry) (m:List (α×β)) (i:Nat),es.map (λe=>(e.key,e.val))=m.map (λp=>(key p.1,val p.2)) ->
 (gz m a=none/\(Instr.findAsking e4 (key a) es i).run P w=.ok none w/\(∀u,lD m a u=m++[(a,u)])/\mf m a=m/\∀p∈m,p.1≠a) \/
 (∃j eS j_,gz m a=some eS/\es[j]?=some j_/\j_.key=key a/\(Instr.findAsking e4 (key a) es i).run P w=.ok (some (i+j,val eS)) w /\
  (∀u,(es.modify j λe=>{ e with key:=key a,val:=val u }).map (λe=>(e.key,e.val))=(lD m a u).map λp=>(key p.1,val p.2)) /\
  (es.eraseIdx j).map (λe=>(e.key,e.val))=(mf m a).map λp=>(key p.1,val p.2))
 | [],m,i,h=>by
  cases m with
  | nil=>exact .inl ⟨rfl,rfl,λ_=>rfl,rfl,by simp⟩
  | cons _ _=>simp at h
 | e::es,m,i,h=>by
  cases m with
  | nil=>simp at h
  | cons p m =>
   simp only[List.map_cons,List.cons.injEq,Prod.mk.injEq] at h
   obtain⟨⟨h1,ag⟩,aB⟩:=h
   by_cases hp:p.1=a
   . refine .inr ⟨0,p.2,e,?_,rfl,by rw[h1,hp],?_,λu=>?_,?_⟩
     . rw[qb,if_pos hp]
     . unfold Instr.findAsking
       rw[h1,ag]
       simp only[Sem.run_bind,hk.eq a p.1 w,decide_eq_true hp.symm,Result.andThen_ok,if_true,Sem.run_pure,Nat.add_zero]
     . simp[lD,hp,aB]
     . simp[mf,hp,aB]
   . have AJ:¬ (a=p.1):=λe=>hp e.symm
     rcases WW hk a w es m (i+1) aB with ⟨d',q2,fF,gA,hT⟩|⟨j,eS,j_,d',q2,fF,gA,hT,oL⟩
     . refine .inl ⟨?_,?_,λu=>?_,?_,?_⟩
       . rw[qb,if_neg hp];exact d'
       . unfold Instr.findAsking
         rw[h1]
         simp only[Sem.run_bind,hk.eq a p.1 w,decide_eq_false AJ,Result.andThen_ok,Bool.false_eq_true,if_false]
         exact q2
       . simp[lD,hp,fF]
       . simp[mf,hp,gA]
       . intro x ah
         rcases List.mem_cons.1 ah with rfl|ah
         . exact hp
         . exact hT x ah
     . refine .inr ⟨j+1,eS,j_,?_,q2,fF,?_,λu=>?_,?_⟩
       . rw[qb,if_neg hp];exact d'
       . unfold Instr.findAsking
         rw[h1]
         simp only[Sem.run_bind,hk.eq a p.1 w,decide_eq_false AJ,Result.andThen_ok,Bool.false_eq_true,if_false]
         rw[gA];congr 3;omega
       . simp[lD,hp,h1,ag,hT]
       . simp[mf,hp,h1,ag,oL]
theorem I7{e4:TypeId}(hk:uu P e4 key)(a:α){es:Array MapEntry}{m:List (α×β)}(h:es.toList.map (λe=>(e.key,e.val))=m.map (λp=>(key p.1,val p.2)))(w:World):
 (gz m a=none/\(Instr.findKey e4 (key a) es.toList).run P w=.ok none w/\(∀u,lD m a u=m++[(a,u)])/\mf m a=m/\∀x∈es.toList,x.key≠key a) \/
 (∃j eS j_,gz m a=some eS/\es[j]?=some j_/\j_.key=key a/\(Instr.findKey e4 (key a) es.toList).run P w=.ok (some (j,val eS)) w /\
  (∀u,(es.modify j λe=>{ e with key:=key a,val:=val u }).toList.map (λe=>(e.key,e.val))=(lD m a u).map λp=>(key p.1,val p.2)) /\
  (es.eraseIdxIfInBounds j).toList.map (λe=>(e.key,e.val))=(mf m a).map λp=>(key p.1,val p.2)):=by
 obtain⟨kind,hu,aT⟩:=hk.aih
 have WX:(Instr.findKey e4 (key a) es.toList).run P w=(Instr.findAsking e4 (key a) es.toList 0).run P w:=by
  unfold Instr.findKey
  simp only[Sem.run_bind,run_underlying hu,Result.andThen_ok]
  cases aii:es.toList with
  | nil=>rfl
  | cons e r =>
   have dL:Instr.findNow kind (key a) (e::r) 0=none:=by
    unfold Instr.findNow
    rw[aii] at h
    cases m with
    | nil=>simp at h
    | cons p m =>
     simp only[List.map_cons,List.cons.injEq,Prod.mk.injEq] at h
     rw[h.1.1,aT]
   rw[dL]
 rcases WW hk a w es.toList m 0 h with ⟨d',q2,fF,gA,hT⟩|⟨j,eS,j_,d',q2,fF,gA,hT,oL⟩
 . refine .inl ⟨d',WX.trans q2,fF,gA,λx ah e=>?_⟩
   have:(x.key,x.val)∈m.map (λp=>(key p.1,val p.2)):=by
    rw[<-h];exact List.mem_map.2 ⟨x,ah,rfl⟩
   obtain⟨p,hp,he⟩:=List.mem_map.1 this;simp only[Prod.mk.injEq] at he;exact hT p hp (hk.inj (he.1.trans e))
 . rw[Array.getElem?_toList] at q2;have bn:j<es.size:=(Array.getElem?_eq_some_iff.1 q2).1;refine .inr ⟨j,eS,j_,d',q2,fF,?_,λu=>?_,?_⟩
   . rw[WX,gA,Nat.zero_add]
   . rw[Array.toList_modify];exact hT u
   . unfold Array.eraseIdxIfInBounds;rw[dif_pos bn,Array.toList_eraseIdx];exact oL
theorem gF.NB{t e4 jo:TypeId}{x y z:Operand}{b:Nat}{m:List (α×β)}(a:α)(u:β)(hk:uu P e4 key)(a8:P.underlying t=some (.map e4 jo))(ah:aP E x=some (.map (some b)))(aD:aP E y=some (key a))(cS:aP E z=some (val u))(hm:kQ key val w b m)
 (eC:∀an,Mod (ca (b+1)) w an->an.heap.size=w.heap.size->kQ key val an b (lD m a u)->K undef an):gF P ⟨d,.mapUpdate t x y z,ty,pos,af,gd⟩ E w K:=λs ax=>by
 obtain⟨es,c,h1,ag,aB⟩:=hm
 have aU:=yU (P:=P) h1
 rcases I7 (P:=P) hk a aB w with ⟨d',q2,fF,gA,hT⟩|⟨j,eS,j_,d',q2,fF,gA,hT,oL⟩
 . have h:=eC _ (AK w b (.map (es.push { key:=key a,val:=val u,born:=c }) (c+1))) di ⟨es.push { key:=key a,val:=val u,born:=c },c+1,C2 h1,stamped_push ag hT,by
    rw[fF u];simp[aB]⟩
   simp[execOp,ax.aP ah,ax.aP aD,ax.aP cS,Instr.mapUpdate,run_underlying a8,aU,hk.q4,q2,setObj,Sem.run,h1,out]
   exact h
 . have mK:Stamped (es.modify j λe=>{ e with key:=key a,val:=val u }) c:=stamped_modify ag j _ (λ_ _=>rfl) λe _ he=>by
    rw[q2] at he;cases he;exact fF.symm
   have h:=eC _ (AK w b (.map (es.modify j λe=>{ e with key:=key a,val:=val u }) c)) di ⟨_,c,C2 h1,mK,hT u⟩
   have lf:Instr.keyThatStays (key a) (key a)=(pure (key a):Sem Value):=by
    unfold Instr.keyThatStays;rw[if_pos (hk.bits a)]
   simp[execOp,ax.aP ah,ax.aP aD,ax.aP cS,Instr.mapUpdate,run_underlying a8,aU,hk.q4,gA,q2,fF,lf,setObj,Sem.run,h1,out]
   exact h
theorem gF.WY{t e4 jo:TypeId}{mu:Array TypeId}{x y:Operand}{b:Nat}{m:List (α×β)}(a:α)(hk:uu P e4 key)(a8:P.underlying t=some (.map e4 jo))(WZ:mu[0]?=some t)(ah:aP E x=some (.map (some b)))(aD:aP E y=some (key a))(hm:kQ key val w b m)
 (eC:∀an,Mod (ca (b+1)) w an->an.heap.size=w.heap.size->kQ key val an b (mf m a)->K (.tuple #[]) an):gF P ⟨d,.call { callee:=.builtin .delete,args:=#[x,y],argTypes:=mu },ty,pos,af,gd⟩ E w K:=λs ax=>by
 obtain⟨es,c,h1,ag,aB⟩:=hm
 have aU:=yU (P:=P) h1
 rcases I7 (P:=P) hk a aB w with ⟨d',q2,fF,gA,hT⟩|⟨j,eS,j_,d',q2,fF,gA,hT,oL⟩
 . have h:=eC _ (AK w b (.map es c)) di ⟨es,c,C2 h1,ag,by rw[gA];exact aB⟩
   simp[execOp,resolve,invoke,builtin,ax.aP ah,ax.aP aD,Builtin.delete_,WZ,run_underlying a8,aU,hk.q4,q2,setObj,Sem.run,h1,out]
   exact h
 . have h:=eC _ (AK w b (.map (es.eraseIdxIfInBounds j) c)) di ⟨_,c,C2 h1,stamped_erase ag j,oL⟩
   simp[execOp,resolve,invoke,builtin,ax.aP ah,ax.aP aD,Builtin.delete_,WZ,run_underlying a8,aU,hk.q4,gA,setObj,Sem.run,h1,out]
   exact h
theorem bz.W0{t e4 jo:TypeId}{x y:Operand}{b:Nat}{m:List (α×β)}{a:α}{z:Value}(hk:uu P e4 key)(a8:P.underlying t=some (.map e4 jo))(cS:∀w,(zeroValue jo).run P w=.ok z w)(ah:aP E x=some (.map (some b)))(aD:aP E y=some (key a))(hm:∀w,C w->kQ key val w b m):
 bz P ⟨d,.lookup t x y true,ty,pos,af,gd⟩ E C (.tuple #[(match gz m a with|some u=>val u|none=>z),.bool (gz m a).isSome]):=λs ax w hC=>by
 obtain⟨es,c,h1,_,aB⟩:=hm w hC
 have aU:=yU (P:=P) h1
 rcases I7 (P:=P) hk a aB w with ⟨d',q2,fF,gA,hT⟩|⟨j,eS,j_,d',q2,fF,gA,hT,oL⟩
 . simp[execOp,ax.aP ah,ax.aP aD,Instr.lookup,run_underlying a8,aU,hk.q4,q2,cS,d']
 . simp[execOp,ax.aP ah,ax.aP aD,Instr.lookup,run_underlying a8,aU,hk.q4,gA,d']
theorem bz.aij{t e4 jo:TypeId}{x y:Operand}{b:Nat}{m:List (α×β)}{a:α}{z:Value}(hk:uu P e4 key)(a8:P.underlying t=some (.map e4 jo))(cS:∀w,(zeroValue jo).run P w=.ok z w)(ah:aP E x=some (.map (some b)))(aD:aP E y=some (key a))(hm:∀w,C w->kQ key val w b m):
 bz P ⟨d,.lookup t x y false,ty,pos,af,gd⟩ E C (match gz m a with|some u=>val u|none=>z):=λs ax w hC=>by
 obtain⟨es,c,h1,_,aB⟩:=hm w hC
 have aU:=yU (P:=P) h1
 rcases I7 (P:=P) hk a aB w with ⟨d',q2,fF,gA,hT⟩|⟨j,eS,j_,d',q2,fF,gA,hT,oL⟩
 . simp[execOp,ax.aP ah,ax.aP aD,Instr.lookup,run_underlying a8,aU,hk.q4,q2,cS,d']
 . simp[execOp,ax.aP ah,ax.aP aD,Instr.lookup,run_underlying a8,aU,hk.q4,gA,d']
theorem bz.NC{t e4 jo:TypeId}{x y:Operand}{b:Nat}{m:List (α×β)}{a:α}{z:Value}{u:β}(hk:uu P e4 key)(a8:P.underlying t=some (.map e4 jo))(cS:∀w,(zeroValue jo).run P w=.ok z w)(ah:aP E x=some (.map (some b)))(aD:aP E y=some (key a))(hm:∀w,C w->kQ key val w b m)(ax:gz m a=some u):
 bz P ⟨d,.lookup t x y false,ty,pos,af,gd⟩ E C (val u):=by
 have h:=bz.aij (d:=d) (ty:=ty) (pos:=pos) (af:=af) (gd:=gd) (val:=val) hk a8 cS ah aD hm;rw[ax] at h;exact h
theorem bz.aik{t e4 jo:TypeId}{x y:Operand}{b:Nat}{m:List (α×β)}{a:α}{z:Value}{u:β}(hk:uu P e4 key)(a8:P.underlying t=some (.map e4 jo))(cS:∀w,(zeroValue jo).run P w=.ok z w)(ah:aP E x=some (.map (some b)))(aD:aP E y=some (key a))(hm:∀w,C w->kQ key val w b m)(ax:gz m a=some u):
 bz P ⟨d,.lookup t x y true,ty,pos,af,gd⟩ E C (.tuple #[val u,.bool true]):=by
 have h:=bz.W0 (d:=d) (ty:=ty) (pos:=pos) (af:=af) (gd:=gd) (val:=val) hk a8 cS ah aD hm;rw[ax] at h;exact h
theorem bz.ail{t e4 jo:TypeId}{x y:Operand}{b:Nat}{m:List (α×β)}{a:α}{z:Value}(hk:uu P e4 key)(a8:P.underlying t=some (.map e4 jo))(cS:∀w,(zeroValue jo).run P w=.ok z w)(ah:aP E x=some (.map (some b)))(aD:aP E y=some (key a))(hm:∀w,C w->kQ key val w b m)(ax:gz m a=none):
 bz P ⟨d,.lookup t x y true,ty,pos,af,gd⟩ E C (.tuple #[z,.bool false]):=by
 have h:=bz.W0 (d:=d) (ty:=ty) (pos:=pos) (af:=af) (gd:=gd) (val:=val) hk a8 cS ah aD hm;rw[ax] at h;exact h
end
end Go.aF
set_option linter.unusedSectionVars false
namespace Go.aF
open Go
section
variable {α:Type}
def jB(enc:α->List Value)(e:TypeId)(sz:Nat)(w:World)(g:Nat)(v:Value)(l:List α):Prop:=
 (∃a,v=.slice a 0 0/\l=[]/\g=0) \/
 ∃b off cap X Y,g=b+1/\v=.slice (some ⟨b,off*sz,none⟩) l.length cap/\w.heap[b]?=some (.cells (X++l.flatMap enc++Y).toArray e (0,0))/\X.length=off*sz/\l.length<=cap/\Y.length=(cap-l.length)*sz/\off+cap<=maxLen
variable {enc:α->List Value} {e:TypeId} {sz:Nat} {w:World} {g:Nat} {v:Value} {l:List α}
theorem jB.nil:jB enc e sz w 0 (.slice none 0 0) []:=.inl ⟨_,rfl,rfl,rfl⟩
theorem jB.keep{M:Nat->Prop}{an:World}(h:jB enc e sz w g v l)(hm:Mod M w an)(aU:∀b,g=b+1->¬ M b):jB enc e sz an g v l:=by
 rcases h with h|⟨b,off,cap,X,Y,bH,h1,ag,aB⟩
 . exact .inl h
 . exact .inr ⟨b,off,cap,X,Y,bH,h1,hm.keep _ _ ag (aU b bH),aB⟩
theorem jB.lt(h:jB enc e sz w g v l):g<=w.heap.size:=by
 rcases h with ⟨_,_,_,h⟩|⟨b,off,cap,X,Y,bH,_,ag,_⟩
 . omega
 . have:=(Array.getElem?_eq_some_iff.1 ag).1;omega
theorem jB.b9(h:jB enc e sz w g v l):aq enc w (dr (g-1) g) v l:=by
 rcases h with ⟨a,h,gO,_⟩|⟨b,off,cap,X,Y,bH,h1,ag,aB,bE,c3,eX⟩
 . subst gO;subst h;exact⟨a,0,rfl,Nat.le_refl _,Nat.zero_le _,.inl rfl⟩
 . refine⟨_,cap,h1,bE,by omega,.inr ⟨b,off*sz,rfl,by unfold dr;omega,λi u hu=>?_⟩⟩;rw[cell_of_row w b _ _ e (0,0) ag];rw[List.getElem?_toArray,List.append_assoc,List.getElem?_append_right aa,show off*sz+i-X.length=i from by omega,List.getElem?_append_left (List.getElem?_eq_some_iff.1 hu).1];exact hu
theorem ND{P:Program}{b:Nat}{e:TypeId}{w:World}{A B C vs:List Value}(h:w.heap[b]?=some (.cells (A++B++C).toArray e (0,0)))(bk:vs.length=B.length)(h1:∀v∈vs,v.oneCell'=true):
 ∃an,(storeCells ⟨b,A.length,none⟩ vs).run P w=.ok () an/\an.heap[b]?=some (.cells (A++vs++C).toArray e (0,0))/\Mod (λi=>i=b) w an/\an.heap.size=w.heap.size:=by
 have mK:=run_storeCells_at P b A.length e vs 0 _ w h (by simp[bk]) h1;refine⟨_,mK,?_,Hr _ _ _,by simp[World.setRow]⟩;rw[setRow_heap w b _ _ e _ h];congr 3
 simp only[Nat.add_zero,List.append_assoc,List.take_left];congr 1
 congr 1
 rw[show A.length+vs.length=(A++B).length from by rw[List.length_append,bk],<-List.append_assoc,List.drop_left]
theorem jB.append{P:Program}(h:jB enc e sz w g v l){t ty:TypeId}{fU:Bool}{by_:Nat}{z:List Value}(a8:P.underlying t=some (.slice e))(he:eu P e=some (fU,sz,by_,z))(cS:z.length=sz)
 (dM:∀x,(enc x).length=sz) (h1:∀x,(enc x).all (·.oneCell')=true) {F:Nat->Prop} {v2:Value} {dR:List α} (aT:aq enc w F v2 dR) (dL:dR≠[]) (xq:(l.length+dR.length)*by_<=140737488355328) (tV:l.length+dR.length<=maxLen) :
 ∃gS fy an,(Builtin.append_ #[t,t] ty #[v,v2]).run P w=.ok gS an/\jB enc e sz an fy gS (l++dR)/\Mod (ca g) w an/\(fy=g\/w.heap.size<fy):=by
 obtain⟨i,jJ,jZ,rM,i2,i3,i4,i5,Ek,R3⟩:=Cb he
 have Hs:∀u∈dR.flatMap enc,u.oneCell'=true:=λu hu=>by
  obtain⟨x,_,ah⟩:=List.mem_flatMap.1 hu
  exact List.all_eq_true.1 (h1 x) u ah
 have dp:(dR.flatMap enc).length=dR.length*i.size:=(by rw[rI dM,i4]);have mv:(l.flatMap enc).length=l.length*i.size:=(by rw[rI dM,i4]);have v8:jZ.cells.size=sz:=(by rw[<-Array.length_toList,Ek,cS]);have R4:l.length+dR.length<=9223372036854775807:=tV;have CS:1<=dR.length:=(by cases dR<;>simp_all);obtain⟨a2,Ap,rfl,El,aA,aT⟩:=aT
 obtain⟨aR,pv,rfl,br,cI⟩:∃aR pv,a2=some (⟨aR,pv,none⟩:Addr)/\F aR/\Row w aR pv (dR.flatMap enc):=by
  rcases aT with h|⟨aR,pv,h1,ag,aB⟩
  . exact absurd h dL
  . exact⟨aR,pv,h1,ag,aB⟩
 have Em:∀j u,(dR.flatMap enc)[j]?=some u->w.cell? ((⟨aR,pv,none⟩:Addr).add j)=some u:=λj u hu=>by
  rw[add_lit];exact cI.cell j u hu
 have NF:Src P i.size t (.slice (some ⟨aR,pv,none⟩) dR.length Ap) dR.length (dR.flatMap enc) w:=Src.ofSlice w a8 _ _ _ _ dp Em Hs
 have fresh:∀(oa:Nat),oa<l.length+dR.length->∀aZ:World,aZ=w.drew.alloc (.cells ((l.flatMap enc++dR.flatMap enc).toArray++Builtin.zeroCells jZ.cells (grownCap w (l.length+dR.length) oa e-(l.length+dR.length))) e) ->
  jB enc e sz aZ (w.heap.size+1) (.slice (some ⟨w.heap.size,0,none⟩) (l.length+dR.length) (grownCap w (l.length+dR.length) oa e)) (l++dR)/\Mod (ca g) w aZ:=by
  intro oa ee aZ ey
  subst ey
  have yF:=grownCap_ge w (l.length+dR.length) oa e
  have s7:grownCap w (l.length+dR.length) oa e<=maxLen:=grownCap_le_maxLen w (l.length+dR.length) oa e tV
  refine⟨.inr ⟨w.heap.size,0,_,[],(Builtin.zeroCells jZ.cells (grownCap w (l.length+dR.length) oa e-(l.length+dR.length))).toList,rfl,by rw[List.length_append,Nat.zero_mul],?_,by simp,by rw[List.length_append];exact yF,?_,by omega⟩,?_⟩
  . refine(heap_alloc_new w.drew _).trans ?_
    congr 2
    apply Array.ext'
    simp[List.flatMap_append]
  . rw[Array.length_toList,size_zeroCells,v8,List.length_append]
  . exact(Mod.drew _ w).trans (Mod.alloc _ _ _)
 rcases h with ⟨a,rfl,rfl,rfl⟩|⟨b,off,cap,X,Y,rfl,rfl,aU,rX,uZ,wG,s7⟩
 . have hold:(Builtin.firstCells i.size 0 (.slice a 0 0)).run P w.drew=.ok (#[]:Array Value) w.drew:=by
    cases a<;>simp[Builtin.firstCells,loadCells,loadCellsFrom]
   have tX:dR.length*i.bytes<=140737488355328:=by
    have ab:=xq;simp only[List.length_nil,Nat.zero_add] at ab;rw[i5];exact ab
   have a':=run_append_grow_src (P:=P) w t t ty e i jZ a8 rM i3 a 0 0 [] hold _ _ _ NF aa aa (growslice_fits aa (by simpa using tX));have bC:=fresh 0 (by simp;omega) _ rfl;simp only[List.length_nil,Nat.zero_add,List.flatMap_nil,List.nil_append] at bC a';exact⟨_,_,_,a',bC.1,bC.2,.inr (Nat.lt_succ_self _)⟩
 . by_cases Ce:l.length+dR.length<=cap
   . have aN:(dR.flatMap enc).length<=Y.length:=by
      rw[dp,wG,i4];exact Nat.mul_le_mul_right _ aa
     obtain⟨an,d',q2,fF,gA⟩:=ND (P:=P) (A:=X++l.flatMap enc) (B:=Y.take (dR.flatMap enc).length) (C:=Y.drop (dR.flatMap enc).length) (vs:=dR.flatMap enc) (b:=b) (e:=e) (w:=w) (by rw[List.append_assoc _ _ (Y.drop _),List.take_append_drop];exact aU) (by rw[List.length_take];omega) Hs;refine⟨.slice (some ⟨b,off*sz,none⟩) (l.length+dR.length) cap,b+1,an,?_,.inr ⟨b,off,cap,X,Y.drop (dR.flatMap enc).length,rfl,by rw[List.length_append],?_,rX,by rw[List.length_append];exact Ce,?_,s7⟩,fF.weaken (λi ar _=>by unfold ca;omega),.inl rfl⟩
     . have bg:(X++l.flatMap enc).length=off*sz+l.length*i.size:=(by rw[List.length_append,rX,mv]);rw[bg] at d';simp[Builtin.append_,run_underlying a8,sizeOf,typeInfo,rM,Builtin.lenOf,Ce,NF.cells,Addr.add_lit,d']
     . rw[q2,List.flatMap_append,List.append_assoc X]
     . rw[List.length_drop,wG,dp,i4,<-Nat.sub_mul,List.length_append];congr 1;omega
   . have holds:∀j u,(l.flatMap enc)[j]?=some u->w.drew.cell? ((⟨b,off*sz,none⟩:Addr).add j)=some u:=λj u hu=>by
      rw[add_lit,cell_of_row w.drew b _ _ e (0,0) aU,List.getElem?_toArray,List.append_assoc,List.getElem?_append_right aa,show off*sz+j-X.length=j from by omega,List.getElem?_append_left (List.getElem?_eq_some_iff.1 hu).1]
      exact hu
     have hold:=run_firstCells_some (P:=P) w.drew i.size l.length ⟨b,off*sz,none⟩ l.length cap (l.flatMap enc) mv holds;have a':=run_append_grow_src (P:=P) w t t ty e i jZ a8 rM i3 (some ⟨b,off*sz,none⟩) l.length cap (l.flatMap enc) hold _ _ _ NF aa aa (growslice_fits aa (by rw[i5];exact xq));have bC:=fresh cap aa _ rfl;exact⟨_,_,_,a',bC.1,bC.2,.inr (Nat.lt_succ_self _)⟩
theorem gF.aim{P:Program}{E:Env}{d:Option Tmp}{ty:TypeId}{pos:String}{af:Array Edge}{gd:Option (Nat×Bool)}{K:Value->World->Prop}{t:TypeId}{x y:Operand}{fU:Bool}{by_:Nat}{z:List Value}{F:Nat->Prop}{v2:Value}{dR:List α}
 (h:jB enc e sz w g v l) (a8:P.underlying t=some (.slice e)) (he:eu P e=some (fU,sz,by_,z)) (cS:z.length=sz)
 (dM:∀x,(enc x).length=sz) (h1:∀x,(enc x).all (·.oneCell')=true) (ah:aP E x=some v) (aD:aP E y=some v2) (aT:aq enc w F v2 dR) (dL:dR≠[]) (xq:(l.length+dR.length)*by_<=140737488355328) (tV:l.length+dR.length<=maxLen)
 (eC:∀gS fy an,jB enc e sz an fy gS (l++dR)->Mod (ca g) w an->(fy=g\/w.heap.size<fy)->K gS an) :
 gF P ⟨d,.call { callee:=.builtin .append,args:=#[x,y],argTypes:=#[t,t] },ty,pos,af,gd⟩ E w K:=λa ax=>by
 obtain⟨gS,fy,an,a',ag,aB,bE⟩:=h.append (ty:=ty) a8 he cS dM h1 aT dL xq tV
 simp only[execOp,resolve,invoke,builtin,Sem.run_bind,Sem.run_pure,Result.andThen_ok,List.map_toArray,List.map_cons,List.map_nil,ax.aP ah,ax.aP aD,a',out]
 exact eC _ _ _ ag aB bE
end
end Go.aF
namespace Go.aF
open Go
section
variable {α:Type} {enc:α->List Value} {e:TypeId} {sz:Nat} {w:World} {g:Nat} {v:Value} {l:List α}
theorem I8(l:List α)(i:Nat):l.flatMap enc=(l.take i).flatMap enc++(l.drop i).flatMap enc:=by rw[<-List.flatMap_append,List.take_append_drop]
theorem ain(l:List α)(i:Nat)(ar:i<l.length):l.flatMap enc=(l.take i).flatMap enc++(enc l[i]++(l.drop (i+1)).flatMap enc):=by rw[I8 l i,List.drop_eq_getElem_cons ar,List.flatMap_cons]
theorem C4{P:Program}{n cap:Nat}{c5 ar:Option Value}(i j:Nat)(Cc:(c5=none/\i=0)\/∃k n,c5=some (.int k n)/\n=(i:Int))(p3:(ar=none/\j=n)\/∃k m,ar=some (.int k m)/\m=(j:Int))(m':i<=j)(bn:j<=n)(al:n<=cap)(w:World):(Instr.sliceBounds true n cap c5 ar none).run P w=.ok (i,j,cap) w:=by
 rcases Cc with ⟨rfl,rfl⟩|⟨k,q,rfl,aN⟩<;>rcases p3 with ⟨rfl,rfl⟩|⟨jz,m,rfl,hm⟩
 . simp[Instr.sliceBounds]
 . simp[Instr.sliceBounds,tT _ hm (Nat.le_trans bn al)]
 . simp[Instr.sliceBounds,tT _ aN m']
 . simp[Instr.sliceBounds,tT _ hm (Nat.le_trans bn al),tT _ aN m']
theorem jB.from{P:Program}{t:TypeId}{by_:Nat}{fU:Bool}{z:List Value}(h:jB enc e sz w g v l)(a8:P.underlying t=some (.slice e))(he:eu P e=some (fU,sz,by_,z))(dM:∀x,(enc x).length=sz){k:IntKind}{n:Int}(i:Nat)(aN:n=(i:Int))(ar:i<=l.length):
 ∃gS fy,(∀w,(Instr.sliceAt t v (some (.int k n)) none none).run P w=.ok gS w)/\jB enc e sz w fy gS (l.drop i)/\(fy=g\/fy=0):=by
 rcases h with ⟨a,rfl,rfl,rfl⟩|⟨b,off,cap,X,Y,rfl,rfl,aU,rX,uZ,wG,s7⟩
 . have vo:i=0:=(by simpa using ar);subst vo;refine⟨.slice a 0 0,0,λw=>?_,.inl ⟨a,rfl,by simp,rfl⟩,.inl rfl⟩;simp[Instr.sliceAt,Instr.slice,run_underlying a8,C4 (n:=0) (cap:=0) 0 0 (.inr ⟨k,n,rfl,aN⟩) (.inl ⟨rfl,rfl⟩) (Nat.le_refl _) (Nat.le_refl _) (Nat.le_refl _) w,run_sizeOf he]
 . have W1:∀w,(Instr.sliceAt t (.slice (some ⟨b,off*sz,none⟩) l.length cap) (some (.int k n)) none none).run P w=.ok (.slice (if cap=i then some ⟨b,off*sz,none⟩ else some ⟨b,off*sz+i*sz,none⟩) (l.length-i) (cap-i)) w:=λw=>by
    have ab:=C4 (P:=P) (n:=l.length) (cap:=cap) i l.length (.inr ⟨k,n,rfl,aN⟩) (.inl ⟨rfl,rfl⟩) ar (Nat.le_refl _) uZ w
    simp[Instr.sliceAt,Instr.slice,run_underlying a8,ab,run_sizeOf he,Addr.add_lit]
   by_cases al:cap=i
   . have I9:l.length=i:=(by omega);refine⟨_,0,W1,.inl ⟨some ⟨b,off*sz,none⟩,?_,List.drop_of_length_le aa,rfl⟩,.inr rfl⟩;rw[if_pos al,I9,Nat.sub_self,al,Nat.sub_self]
   . have tU:=rI dM (l.take i);rw[List.length_take,Nat.min_eq_left ar] at tU;refine⟨_,b+1,W1,.inr ⟨b,off+i,cap-i,X++(l.take i).flatMap enc,Y,rfl,?_,?_,?_,?_,?_,by omega⟩,.inl rfl⟩
     . rw[if_neg al,List.length_drop,Nat.add_mul]
     . rw[aU,I8 (enc:=enc) l i];simp only[List.append_assoc]
     . rw[List.length_append,rX,tU,Nat.add_mul]
     . rw[List.length_drop];omega
     . rw[wG,List.length_drop];congr 1;omega
theorem jB.upto{P:Program}{t:TypeId}{by_:Nat}{fU:Bool}{z:List Value}(h:jB enc e sz w g v l)(a8:P.underlying t=some (.slice e))(he:eu P e=some (fU,sz,by_,z))(dM:∀x,(enc x).length=sz){k:IntKind}{n:Int}(j:Nat)(aN:n=(j:Int))(bn:j<=l.length):
 ∃gS,(∀w,(Instr.sliceAt t v none (some (.int k n)) none).run P w=.ok gS w)/\jB enc e sz w g gS (l.take j):=by
 rcases h with ⟨a,rfl,rfl,rfl⟩|⟨b,off,cap,X,Y,rfl,rfl,aU,rX,uZ,wG,s7⟩
 . have Fi:j=0:=(by simpa using bn);subst Fi;refine⟨.slice a 0 0,λw=>?_,.inl ⟨a,rfl,by simp,rfl⟩⟩;simp[Instr.sliceAt,Instr.slice,run_underlying a8,C4 (n:=0) (cap:=0) 0 0 (.inl ⟨rfl,rfl⟩) (.inr ⟨k,n,rfl,aN⟩) (Nat.le_refl _) (Nat.le_refl _) (Nat.le_refl _) w,run_sizeOf he]
 . have tU:=rI dM (l.drop j);refine⟨.slice (some ⟨b,off*sz,none⟩) j cap,λw=>?_,.inr ⟨b,off,cap,X,(l.drop j).flatMap enc++Y,rfl,by rw[List.length_take,Nat.min_eq_left bn],?_,rX,by rw[List.length_take];omega,?_,s7⟩⟩
   . have ab:=C4 (P:=P) (n:=l.length) (cap:=cap) 0 j (.inl ⟨rfl,rfl⟩) (.inr ⟨k,n,rfl,aN⟩) (Nat.zero_le _) bn uZ w;simp[Instr.sliceAt,Instr.slice,run_underlying a8,ab,run_sizeOf he,Addr.add_lit]
   . rw[aU,I8 (enc:=enc) l j];simp only[List.append_assoc]
   . rw[List.length_append,tU,wG,List.length_drop,List.length_take,Nat.min_eq_left bn,<-Nat.add_mul];congr 1;omega
theorem jB.at{P:Program}{t:TypeId}{by_:Nat}{fU:Bool}{z:List Value}(h:jB enc e sz w g v l)(a8:P.underlying t=some (.slice e))(he:eu P e=some (fU,sz,by_,z))(dM:∀x,(enc x).length=sz){k:IntKind}{n:Int}(i:Nat)(aN:n=(i:Int))(ar:i<l.length):
 ∃b off x,(∀w,(Instr.indexAt t v (.int k n)).run P w=.ok (ptr b off) w)/\l[i]?=some x/\g=b+1/\Row w b off (enc x) /\
  ∀aZ,jB enc e sz aZ g v l->∃A C,A.length=off/\aZ.heap[b]?=some (.cells (A++enc x++C).toArray e (0,0))/\∀(q3:α) (an:World),an.heap[b]?=some (.cells (A++enc q3++C).toArray e (0,0))->jB enc e sz an g v (l.set i q3):=by
 have hU:=h.b9;rcases h with ⟨a,rfl,rfl,rfl⟩|⟨b,off,cap,X,Y,rfl,rfl,aU,rX,uZ,wG,s7⟩
 . simp at ar
 . obtain⟨sr,R_,a',ab,rT⟩:=hU.at a8 he dM (k:=k) i aN ar;have bH:(0:Int)<=n/\n<(l.length:Int):=(by omega);have fV:n.toNat=i:=by omega
   have cI:(Instr.indexAt t (.slice (some ⟨b,off*sz,none⟩) l.length cap) (.int k n)).run P w=.ok (ptr b (off*sz+i*sz)) w:=by
    simp[Instr.indexAt,asIntOf,run_underlying a8,bH,run_sizeOf he,add_lit,ptr,fV]
   have heq:=(a' w).symm.trans cI;simp only[ptr,Result.ok.injEq,Value.pointer.injEq,Option.some.injEq,Addr.mk.injEq,and_true] at heq;obtain⟨rfl,rfl⟩:=heq;refine⟨_,_,l[i],a',by simp,rfl,rT,λaZ ag=>?_⟩;rcases ag with ⟨_,_,_,ah⟩|⟨aR,pv,Ap,W2,W3,tj,bF,aio,W4,HO,aip,aiq⟩
   . omega
   . simp only[Value.slice.injEq,Option.some.injEq,Addr.mk.injEq,and_true,true_and] at bF;obtain⟨⟨rfl,uc⟩,rfl⟩:=bF;have tU:=rI dM (l.take i);rw[List.length_take,Nat.min_eq_left aa] at tU;refine⟨W2++(l.take i).flatMap enc,(l.drop (i+1)).flatMap enc++W3,by rw[List.length_append,W4,tU,uc],?_,λq3 an air=>?_⟩
     . rw[aio];rw[ain (enc:=enc) l i ar];simp only[List.append_assoc]
     . refine .inr ⟨sr,pv,cap,W2,W3,rfl,?_,?_,W4,by rw[List.length_set];exact HO,by rw[List.length_set];exact aip,aiq⟩
       . rw[List.length_set,uc]
       . rw[air];congr 3
         rw[List.set_eq_take_append_cons_drop,if_pos ar];simp[List.flatMap_append,List.flatMap_cons,List.append_assoc]
theorem gF.ais{P:Program}{E:Env}{d:Option Tmp}{ty:TypeId}{pos:String}{af:Array Edge}{gd:Option (Nat×Bool)}{K:Value->World->Prop}{t:TypeId}{x y:Operand}{u:Value}{b off by_ i:Nat}{fU:Bool}{z:List Value}{oa:α}
 (h:jB enc e sz w g v l) (aU:g=b+1) (nf:∀aZ,jB enc e sz aZ g v l->∃A C,A.length=off/\aZ.heap[b]?=some (.cells (A++enc oa++C).toArray e (0,0))/\∀(q3:α) (an:World),an.heap[b]?=some (.cells (A++enc q3++C).toArray e (0,0))->jB enc e sz an g v (l.set i q3))
 (dM:∀x,(enc x).length=sz) (ee:∀x,(enc x).all (·.oneCell')=true) (q3:α) (a8:eu P t=some (fU,sz,by_,z)) (ah:aP E x=some (ptr b off)) (aD:aP E y=some u) (cN:u.cells.toList=enc q3)
 (eC:∀an,Mod (ca g) w an->an.heap.size=w.heap.size->jB enc e sz an g v (l.set i q3)->K undef an):gF P ⟨d,.store t x y,ty,pos,af,gd⟩ E w K:=λa ax=>by
 obtain⟨A,C,h1,ag,aB⟩:=nf w h
 subst h1 aU
 obtain⟨an,d',q2,fF,gA⟩:=ND (P:=P) (vs:=enc q3) ag (by rw[dM,dM]) (λu hu=>List.all_eq_true.1 (ee q3) u hu)
 have aT:u.cells.size=sz:=by rw[<-Array.length_toList,cN,dM]
 have hk:=eC an (fF.weaken λi ar _=>by unfold ca;omega) gA (aB q3 an q2)
 simp[execOp,ax.aP ah,ax.aP aD,ptr,Instr.storeAt,Instr.sureAddr,storeVar,run_sizeOf a8,aT,cN,d',out]
 exact hk
theorem W5{z:Array Value}{x:α}(cS:z.toList=enc x)(bH:0<z.size):∀n:Nat,(Builtin.zeroCells z n).toList=(List.replicate n x).flatMap enc
 | 0=>by simp[Builtin.zeroCells]
 | n+1=>by
  have cc:=W5 cS bH n
  rw[List.replicate_succ',List.flatMap_append,<-cc]
  unfold Builtin.zeroCells
  simp only[Array.toList_map,Array.toList_range,Nat.add_mul,Nat.one_mul,List.flatMap_cons,List.flatMap_nil,List.append_nil]
  rw[List.range_add,List.map_append,<-cS]
  congr 1
  rw[List.map_map]
  apply List.ext_getElem
  . simp
  . intro j h1 ag
    simp only[List.getElem_map,List.getElem_range,Function.comp_apply,Array.getElem_toList]
    have bn:j<z.size:=by simpa using ag
    rw[Nat.mul_comm,Nat.mul_add_mod,Nat.mod_eq_of_lt bn,getElem!_pos z j bn]
theorem gF.ait{P:Program}{E:Env}{d:Option Tmp}{ty:TypeId}{pos:String}{af:Array Edge}{gd:Option (Nat×Bool)}{K:Value->World->Prop}{t:TypeId}{x:Operand}{by_:Nat}{fU:Bool}{z:List Value}{jZ:Value}{v2:Value}{k:IntKind}{n:Int}{i:Nat}
 (h:jB enc e sz w g v l) (a8:P.underlying t=some (.slice e)) (he:eu P e=some (fU,sz,by_,z)) (dM:∀x,(enc x).length=sz) (ee:∀x,(enc x).all (·.oneCell')=true) (CS:0<sz) (aN:n=(i:Int)) (ar:i<=l.length)
 (kn:∀w,(Instr.sliceAt t v (some (.int k n)) none none).run P w=.ok v2 w) (C5:α) (cS:∀w,(zeroValue e).run P w=.ok jZ w) (IH:jZ.cells.toList=enc C5) (ah:aP E x=some v2)
 (eC:∀an,Mod (ca g) w an->an.heap.size=w.heap.size->jB enc e sz an g v (l.take i++List.replicate (l.length-i) C5)->K (.tuple #[]) an):gF P ⟨d,.call { callee:=.builtin .clear,args:=#[x],argTypes:=#[t] },ty,pos,af,gd⟩ E w K:=λs ax=>by
 have v8:jZ.cells.size=sz:=by rw[<-Array.length_toList,IH,dM]
 rcases h with ⟨a,rfl,rfl,rfl⟩|⟨b,off,cap,X,Y,rfl,rfl,aU,rX,uZ,wG,s7⟩
 . have vo:i=0:=by simpa using ar
   subst vo
   have je:=(kn w).symm.trans (show(Instr.sliceAt t (.slice a 0 0) (some (.int k n)) none none).run P w=.ok (.slice a 0 0) w by
    simp[Instr.sliceAt,Instr.slice,run_underlying a8,C4 (n:=0) (cap:=0) 0 0 (.inr ⟨k,n,rfl,aN⟩) (.inl ⟨rfl,rfl⟩) (Nat.le_refl _) (Nat.le_refl _) (Nat.le_refl _) w,run_sizeOf he])
   simp only[Result.ok.injEq,and_true] at je
   subst je
   have hk:=eC w (Mod.refl _ _) rfl (.inl ⟨a,rfl,by simp,rfl⟩)
   cases a<;>simp[execOp,resolve,invoke,builtin,ax.aP ah,Builtin.clear_,run_underlying a8,out]<;>exact hk
 . have ab:=C4 (P:=P) (n:=l.length) (cap:=cap) i l.length (.inr ⟨k,n,rfl,aN⟩) (.inl ⟨rfl,rfl⟩) ar (Nat.le_refl _) uZ w
   have je:=(kn w).symm.trans (show(Instr.sliceAt t (.slice (some ⟨b,off*sz,none⟩) l.length cap) (some (.int k n)) none none).run P w=.ok (.slice (if cap=i then some ⟨b,off*sz,none⟩ else some ⟨b,off*sz+i*sz,none⟩) (l.length-i) (cap-i)) w by
    simp[Instr.sliceAt,Instr.slice,run_underlying a8,ab,run_sizeOf he,Addr.add_lit])
   simp only[Result.ok.injEq,and_true] at je
   subst je
   by_cases I9:l.length-i=0
   . have dp:l.take i++List.replicate (l.length-i) C5=l:=by rw[I9,List.take_of_length_le aa];simp
     have hk:=eC w (Mod.refl _ _) rfl (by rw[dp];exact .inr ⟨b,off,cap,X,Y,rfl,rfl,aU,rX,uZ,wG,s7⟩)
     rw[I9] at ah
     by_cases al:cap=i
     . simp[al] at ah
       simp[execOp,resolve,invoke,builtin,ax.aP ah,Builtin.clear_,run_underlying a8,out];exact hk
     . simp[al] at ah
       simp[execOp,resolve,invoke,builtin,ax.aP ah,Builtin.clear_,run_underlying a8,out];exact hk
   . have al:cap≠i:=by omega
     have C6:=rI dM (l.take i)
     rw[List.length_take,Nat.min_eq_left ar] at C6
     have sF:=rI dM (l.drop i)
     rw[List.length_drop] at sF
     have vX:(Builtin.zeroCells jZ.cells (l.length-i)).toList=(List.replicate (l.length-i) C5).flatMap enc:=W5 IH aa _
     have Hz:=rI dM (List.replicate (l.length-i) C5)
     rw[List.length_replicate] at Hz
     obtain⟨an,d',q2,fF,gA⟩:=ND (P:=P) (A:=X++(l.take i).flatMap enc) (B:=(l.drop i).flatMap enc) (C:=Y) (vs:=(List.replicate (l.length-i) C5).flatMap enc) (b:=b) (e:=e) (w:=w) (by rw[List.append_assoc X,<-I8];exact aU) (by rw[Hz,sF]) (λu hu=>by
      obtain⟨x,_,ah⟩:=List.mem_flatMap.1 hu
      exact List.all_eq_true.1 (ee x) u ah)
     rw[List.length_append,rX,C6] at d'
     have hk:=eC an (fF.weaken λi ar _=>by unfold ca;omega) gA (.inr ⟨b,off,cap,X,Y,rfl,by simp[Nat.min_eq_left ar];omega,by rw[q2,List.flatMap_append,List.append_assoc X],rX,by simp[Nat.min_eq_left ar];omega,by rw[wG];congr 1;simp[Nat.min_eq_left ar];omega,s7⟩)
     simp only[if_neg al] at ah
     obtain⟨q,dB⟩:∃q,l.length-i=q+1:=⟨l.length-i-1,by omega⟩
     rw[<-vX] at d'
     rw[dB] at ah d'
     simp[execOp,resolve,invoke,builtin,ax.aP ah,Builtin.clear_,run_underlying a8,cS,d',out]
     exact hk
end
section
variable {R bV:Nat->Prop} {w0 w an:World} {L:List (dq R)} {i:Nat} {α:Type} {enc:α->List Value} {e:TypeId} {sz:Nat} {v:Value} {l:List α}
def lE(enc:α->List Value)(e:TypeId)(sz:Nat)(v:Value)(l:List α):dq R:=
 ⟨λF w=>∃g,jB enc e sz w g v l/\∀b,b+1=g->F b,λ⟨g,h1,ag⟩ hm br _=>⟨g,h1.keep hm λb ab=>br b (ag b ab.symm),ag⟩⟩
theorem au.C7(h:au R bV w0 w L)(ar:L[i]?=some (lE enc e sz v l)):∃g,jB enc e sz w g v l/\g<=w.heap.size/\∀(an:World) (fy:Nat) (gS:Value) (j2:List α),Mod (ca g) w an->jB enc e sz an fy gS j2->(fy=g\/fy=0\/w.heap.size<fy)->au R bV w0 an (L.set i (lE enc e sz gS j2)):=by
 obtain⟨F,⟨g,h1,aB⟩,ag,k⟩:=h.act ar;refine⟨g,h1,h1.lt,λan fy gS j2 hm ax aU=>k an (λb=>b+1=fy) _ (hm.weaken λb ab _=>aB b ab) ⟨fy,ax,λb ab=>ab⟩ λb ab=>⟨?_,?_⟩⟩
 . have:=ax.lt;omega
 . rcases aU with aU|aU|aU
   . exact .inl (aB b aa)
   . omega
   . exact .inr aa
theorem au.Fo(h:au R bV w0 w L)(ar:L[i]?=some (lE enc e sz v l)):aq enc w (dr 0 w.heap.size) v l:=by
 obtain⟨g,h1,ag,_⟩:=h.C7 ar;exact h1.b9.cw (Nat.zero_le _) ag
theorem aiu{F:Nat->Prop}(h:(lE (R:=R) enc e sz v l).p F w):aq enc w F v l:=by
 obtain⟨g,h1,ag⟩:=h;refine h1.b9.mono λb ab=>ag b ?_
 rcases h1 with ⟨_,_,_,bE⟩|⟨sr,off,cap,X,Y,bH,_⟩
 . unfold dr at ab;omega
 . unfold dr at ab;omega
end
end Go.aF
namespace Go.ak
open Go.aF
structure bf where
 slot:Int
 query:Int
 shard:Int
 seq:Int
 f':Int
 text:aj
 k:Int
 batch:Int
 first:Bool
 after:b6
 deriving DecidableEq
def eO(a:bf):List Value:=[.int .i64 a.slot,.int .i64 a.query,.int .i64 a.shard,.int .i64 a.seq,.int .i64 a.f',aE a.text,.int .i64 a.k,.int .i64 a.batch,.bool a.first,.int .i64 a.after.cq,aE a.after.word]
theorem r3(a:bf):(eO a).length=11:=rfl
theorem C8(a:bf):(eO a).all (·.oneCell')=true:=rfl
def lk(a:bf):Value:=.agg (eO a).toArray
def NG:bf:=⟨0,0,0,0,0,[],0,0,false,⟨0,[]⟩⟩
def bf.pl(a:bf):Int×Int:=(a.slot,a.shard)
def k4(p:Int×Int):List Value:=[.int .i64 p.1,.int .i64 p.2]
theorem vp(p:Int×Int):(k4 p).length=2:=rfl
theorem NH(p:Int×Int):(k4 p).all (·.oneCell')=true:=rfl
def lF(p:Int×Int):Value:=.agg #[.int .i64 p.1,.int .i64 p.2]
structure bf.Ok(a:bf):Prop where
 slot:bY a.slot
 query:bY a.query
 shard:bY a.shard
 seq:bY a.seq
 f':bY a.f'
 k:bY a.k
 batch:bY a.batch
 cq:bY a.after.cq
def I_(a:bf):Bool:=decide (0<=a.slot/\a.slot<4/\0<=a.shard/\a.shard<6)
def ll(q:List bf)(p:Int×Int):Option bf:=q.find? λx=>decide (x.pl=p)
def Fp(x a:bf):Bool:=decide (x.query>a.query\/x.query=a.query/\x.seq>a.seq)
def nt(q:List bf)(a:bf):Bool:=I_ a && (match ll q a.pl with|some x=>!Fp x a|none=>true)
def gf(q:List bf)(a:bf):List bf:=
 if nt q a=true then(match ll q a.pl with|some _=>q.map λx=>if x.pl=a.pl then a else x|none=>q++[a]) else q
def uv(slot query:Int)(x:bf):Bool:=decide (x.slot=slot/\x.query<=query)
def ln(q:List bf)(slot query:Int):List bf:=q.filter λx=>!uv slot query x
structure js(m:List ((Int×Int)×bf))(q:List bf):Prop where
 keys:(m.map Prod.fst).Nodup
 at_:∀p,gz m p=ll q p
 vq:(q.map bf.pl).Nodup
theorem js.nil:js [] []:=⟨by simp,λp=>rfl,by simp⟩
section
variable {α β:Type} [DecidableEq α]
theorem W6(m:List (α×β))(a b:α)(u:β):gz (lD m a u) b=if a=b then some u else gz m b:=by
 induction m with
 | nil =>
  unfold lD;rw[qb]
 | cons p m cc =>
  unfold lD;by_cases h:p.1=a
  . rw[if_pos h,qb,qb];by_cases ab:a=b
    . rw[if_pos ab,if_pos ab]
    . rw[if_neg ab,if_neg ab,if_neg (λe=>ab (h.symm.trans e))]
  . rw[if_neg h,qb,qb,cc];by_cases ab:a=b
    . rw[if_pos ab,if_neg (λe=>h (e.trans ab.symm)),if_pos ab]
    . rw[if_neg ab,if_neg ab]
theorem aiv(m:List (α×β))(a:α)(u:β):(lD m a u).map Prod.fst=if a∈m.map Prod.fst then m.map Prod.fst else m.map Prod.fst++[a]:=by
 induction m with
 | nil=>simp[lD]
 | cons p m cc =>
  unfold lD;by_cases h:p.1=a
  . rw[if_pos h];simp[h]
  . rw[if_neg h,List.map_cons,cc];by_cases hm:a∈m.map Prod.fst
    . rw[if_pos hm,if_pos (by simp only[List.map_cons,List.mem_cons];exact .inr hm)];rfl
    . rw[if_neg hm,if_neg (by simp only[List.map_cons,List.mem_cons,not_or];exact⟨λe=>h e.symm,hm⟩)];rfl
theorem W7{m:List (α×β)}{a:α}{u:β}(h:(m.map Prod.fst).Nodup):((lD m a u).map Prod.fst).Nodup:=by
 rw[aiv];split
 . exact h
 . rename_i hm;rw[List.nodup_append];exact⟨h,by simp,λx ah y aD=>by simp only[List.mem_singleton] at aD;subst aD;exact λe=>hm (e▸ah)⟩
theorem aiw(m:List (α×β))(a:α):(mf m a).Sublist m:=by
 induction m with
 | nil=>exact List.Sublist.refl _
 | cons p m cc =>
  unfold mf;split
  . exact List.sublist_cons_self _ _
  . exact cc.cons_cons _
theorem Nf{m:List (α×β)}{a:α}(h:a∉m.map Prod.fst):gz m a=none:=by
 induction m with
 | nil=>rfl
 | cons p m cc =>
  simp only[List.map_cons,List.mem_cons,not_or] at h;rw[qb,if_neg (λe=>h.1 e.symm),cc h.2]
theorem aix{m:List (α×β)}(h:(m.map Prod.fst).Nodup)(a b:α):gz (mf m a) b=if a=b then none else gz m b:=by
 induction m with
 | nil=>simp[mf,aid]
 | cons p m cc =>
  rw[List.map_cons,List.nodup_cons] at h;unfold mf;by_cases hp:p.1=a
  . rw[if_pos hp,qb];by_cases ab:a=b
    . rw[if_pos ab,<-ab,<-hp];exact Nf h.1
    . rw[if_neg ab,if_neg (λe=>ab (hp.symm.trans e))]
  . rw[if_neg hp,qb,qb,cc h.2];by_cases ab:a=b
    . rw[if_pos ab,if_neg (λe=>hp (e.trans ab.symm)),if_pos ab]
    . rw[if_neg ab,if_neg ab]
theorem aiy{m:List (α×β)}{a:α}(h:(m.map Prod.fst).Nodup):((mf m a).map Prod.fst).Nodup:=h.sublist ((aiw m a).map _)
end
theorem I'{q:List bf}(h:(q.map bf.pl).Nodup){x:bf}(ah:x∈q):ll q x.pl=some x:=by
 induction q with
 | nil=>simp at ah
 | cons y q cc =>
  rw[List.map_cons,List.nodup_cons] at h;unfold ll;rw[List.find?_cons];by_cases e:y.pl=x.pl
  . rcases List.mem_cons.1 ah with rfl|ah
    . simp
    . exact absurd (List.mem_map.2 ⟨x,ah,e.symm⟩) h.1
  . rcases List.mem_cons.1 ah with rfl|ah
    . exact absurd rfl e
    . rw[decide_eq_false e];exact cc h.2 ah
theorem aiz(q:List bf)(a:bf)(p:Int×Int):ll (q++[a]) p=match ll q p with|some x=>some x|none=>if a.pl=p then some a else none:=by
 unfold ll;rw[List.find?_append]
 cases q.find? (λx=>decide (x.pl=p)) with
 | some x=>rfl
 | none =>
  by_cases h:a.pl=p
  . simp[h]
  . simp[h]
theorem aiA{q:List bf}{p:Int×Int}(h:ll q p=none):p∉q.map bf.pl:=λhm=>by
 obtain⟨x,ah,rfl⟩:=List.mem_map.1 hm
 have:=List.find?_eq_none.1 h x ah
 simp at this
theorem NI(q:List bf)(a:bf):(q.map λx=>if x.pl=a.pl then a else x).map bf.pl=q.map bf.pl:=by
 rw[List.map_map];refine List.map_congr_left λx _=>?_
 simp only[Function.comp_apply];split
 . rename_i h;exact h.symm
 . rfl
theorem aiB{q:List bf}{a:bf}(p:Int×Int):ll (q.map λx=>if x.pl=a.pl then a else x) p=if a.pl=p then(match ll q p with|some _=>some a|none=>none) else ll q p:=by
 induction q with
 | nil=>unfold ll;simp
 | cons y q cc =>
  unfold ll at cc ⊢;rw[List.map_cons,List.find?_cons,List.find?_cons];by_cases aD:y.pl=a.pl
  . rw[if_pos aD];by_cases hp:a.pl=p
    . simp[hp,aD.trans hp]
    . rw[if_neg hp] at cc;simp only[decide_eq_false hp,decide_eq_false (show ¬ y.pl=p from λe=>hp (aD.symm.trans e)),if_neg hp];exact cc
  . rw[if_neg aD];by_cases hp:y.pl=p
    . simp only[decide_eq_true hp];rw[if_neg (λe=>aD (hp.trans e.symm))]
    . simp only[decide_eq_false hp];exact cc
theorem js.put{m:List ((Int×Int)×bf)}{q:List bf}{a x:bf}(h:js m q)(ah:ll q a.pl=some x):js (lD m a.pl a) (q.map λx=>if x.pl=a.pl then a else x):=by
 refine⟨W7 h.keys,λp=>?_,by rw[NI];exact h.vq⟩;rw[W6,aiB,h.at_];by_cases hp:a.pl=p
 . rw[if_pos hp,if_pos hp,<-hp,ah]
 . rw[if_neg hp,if_neg hp]
theorem js.add{m:List ((Int×Int)×bf)}{q:List bf}{a:bf}(h:js m q)(ah:ll q a.pl=none):js (lD m a.pl a) (q++[a]):=by
 refine⟨W7 h.keys,λp=>?_,?_⟩
 . rw[W6,aiz,h.at_];by_cases hp:a.pl=p
   . rw[if_pos hp,<-hp,ah];simp
   . rw[if_neg hp]
     cases ll q p with
     | some _=>rfl
     | none=>simp[hp]
 . rw[List.map_append,List.nodup_append];exact⟨h.vq,by simp,λx tk y aD=>by simp only[List.map_cons,List.map_nil,List.mem_singleton] at aD;subst aD;exact λe=>aiA ah (e▸tk)⟩
theorem aiC{q:List bf}(h:(q.map bf.pl).Nodup){a:bf}(p:Int×Int):ll (q.filter λx=>decide (x.pl≠a.pl)) p=if a.pl=p then none else ll q p:=by
 induction q with
 | nil=>unfold ll;simp
 | cons y q cc =>
  rw[List.map_cons,List.nodup_cons] at h;have cc:=cc h.2;unfold ll at cc ⊢;rw[List.filter_cons,List.find?_cons];by_cases aD:y.pl=a.pl
  . rw[if_neg (by simp[aD]),cc];by_cases hp:a.pl=p
    . rw[if_pos hp,if_pos hp]
    . rw[if_neg hp,if_neg hp,decide_eq_false (λe=>hp (aD.symm.trans e))]
  . rw[if_pos (by simp[aD]),List.find?_cons];by_cases hp:y.pl=p
    . rw[decide_eq_true hp];simp only;rw[if_neg (λe=>aD (hp.trans e.symm))]
    . rw[decide_eq_false hp];simp only;exact cc
theorem js.del{m:List ((Int×Int)×bf)}{q:List bf}{a:bf}(h:js m q):js (mf m a.pl) (q.filter λx=>decide (x.pl≠a.pl)):=by
 refine⟨aiy h.keys,λp=>?_,h.vq.sublist ((List.filter_sublist).map _)⟩;rw[aix h.keys,aiC h.vq,h.at_]
theorem W8{q:List bf}{a:bf}(h:((a::q).map bf.pl).Nodup):(a::q).filter (λx=>decide (x.pl≠a.pl))=q:=by
 rw[List.map_cons,List.nodup_cons] at h;rw[List.filter_cons_of_neg di,List.filter_eq_self.2];intro x ah;simp only[ne_eq,decide_eq_true_eq];exact λe=>h.1 (List.mem_map.2 ⟨x,ah,e⟩)
theorem js.pop{m:List ((Int×Int)×bf)}{q:List bf}{a:bf}(h:js m (a::q)):js (mf m a.pl) q:=by
 have:=h.del (a:=a);rwa[W8 h.vq] at this
theorem js.head{m:List ((Int×Int)×bf)}{q:List bf}{a:bf}(h:js m (a::q)):gz m a.pl=some a:=by
 rw[h.at_];exact I' h.vq di
theorem js.mem{m:List ((Int×Int)×bf)}{q:List bf}{a:bf}(h:js m q)(ax:a∈q):gz m a.pl=some a:=by
 rw[h.at_];exact I' h.vq ax
theorem js.Cm{m:List ((Int×Int)×bf)}{q:List bf}{k:Nat}{p:Int×Int}(h:js m q)(hp:(q.map bf.pl)[k]?=some p):∃a,q[k]?=some a/\a.pl=p/\gz m p=some a:=by
 rw[List.getElem?_map] at hp
 cases ax:q[k]? with
 | none=>rw[ax] at hp;cases hp
 | some a =>
  rw[ax] at hp;simp only[Option.map_some,Option.some.injEq] at hp;subst hp;exact⟨a,rfl,rfl,h.mem (List.mem_of_getElem? ax)⟩
section
variable {b8 α:Type}
def kR(f:b8->α->b8×Bool)(s:b8)(l:List α):b8:=l.foldl (λs x=>(f s x).1) s
def o4(f:b8->α->b8×Bool):b8->List α->List α
 | _,[]=>[]
 | s,x::r=>(if (f s x).2=true then[] else[x])++o4 f (f s x).1 r
theorem aiD(f:b8->α->b8×Bool)(s:b8)(l:List α)(x:α):kR f s (l++[x])=(f (kR f s l) x).1:=by unfold kR;rw[List.foldl_append];rfl
theorem W9(f:b8->α->b8×Bool):∀(l:List α) (s:b8) (x:α),o4 f s (l++[x])=o4 f s l++(if (f (kR f s l) x).2=true then[] else[x])
 | [],s,x=>by show(if (f s x).2=true then[] else[x])++[]=[]++(if (f s x).2=true then[] else[x]);simp
 | y::l,s,x=>by
  simp only[List.cons_append,o4]
  rw[W9 f l]
  simp only[List.append_assoc];rfl
def A9(ok:b8->α->Prop)(f:b8->α->b8×Bool):b8->List α->Prop
 | _,[]=>True
 | s,x::r=>ok s x/\A9 ok f (f s x).1 r
theorem A9.get{ok:b8->α->Prop}{f:b8->α->b8×Bool}:∀{l:List α} {s:b8} {k:Nat} {x:α},A9 ok f s l->l[k]?=some x->ok (kR f s (l.take k)) x
 | [],s,k,x,_,ah=>by simp at ah
 | y::l,s,0,x,h,ah=>by
  simp only[List.getElem?_cons_zero,Option.some.injEq] at ah
  subst ah;exact h.1
 | y::l,s,k+1,x,h,ah=>by
  simp only[List.getElem?_cons_succ] at ah
  exact A9.get (l:=l) (s:=(f s y).1) (k:=k) h.2 ah
theorem Ja{f:b8->α->b8×Bool}{s:b8}{l:List α}{k:Nat}{x:α}(ah:l[k]?=some x):kR f s (l.take (k+1))=(f (kR f s (l.take k)) x).1:=by
 rw[List.take_add_one,ah];exact aiD f s _ x
theorem Jb{f:b8->α->b8×Bool}{s:b8}{l:List α}{k:Nat}{x:α}(ah:l[k]?=some x):o4 f s (l.take (k+1))=o4 f s (l.take k)++(if (f (kR f s (l.take k)) x).2=true then[] else[x]):=by
 rw[List.take_add_one,ah];exact W9 f _ s x
end
def lS(slot query:Int)(q:List bf)(p:Int×Int):List bf×Bool:=
 match ll q p with
 | some x=>if uv slot query x=true then(q.filter (λy=>decide (y.pl≠p)),true) else(q,false)
 | none=>(q,false)
def Jc(q:List bf)(p:Int×Int):Prop:=∃x,x∈q/\x.pl=p/\(q.map bf.pl).Nodup
theorem NJ(slot query:Int):∀(r a:List bf),((a++r).map bf.pl).Nodup->(∀x∈a,uv slot query x=false) ->
 A9 Jc (lS slot query) (a++r) (r.map bf.pl)/\kR (lS slot query) (a++r) (r.map bf.pl)=a++ln r slot query/\o4 (lS slot query) (a++r) (r.map bf.pl)=(ln r slot query).map bf.pl
 | [],a,_,_=>⟨trivial,by simp[kR,ln],rfl⟩
 | x::r,a,aN,ax=>by
  have ah:x∈a++x::r:=by simp
  have nf:=I' aN ah
  have bX:Jc (a++x::r) x.pl:=⟨x,ah,rfl,aN⟩
  cases uc:uv slot query x with
  | true =>
   have bC:lS slot query (a++x::r) x.pl=((a++x::r).filter (λy=>decide (y.pl≠x.pl)),true):=by
    unfold lS;rw[nf];simp only;rw[if_pos uc]
   have he:(a++x::r).filter (λy=>decide (y.pl≠x.pl))=a++r:=by
    rw[List.map_append,List.nodup_append] at aN
    rw[List.filter_append,List.filter_eq_self.2,W8 aN.2.1]
    intro y aD
    simp only[ne_eq,decide_eq_true_eq]
    exact λe=>aN.2.2 _ (List.mem_map.2 ⟨y,aD,rfl⟩) _ di e
   rw[he] at bC
   have tv:((a++r).map bf.pl).Nodup:=aN.sublist (List.Sublist.map _ ((List.Sublist.refl a).append (List.sublist_cons_self x r)))
   obtain⟨h1,ag,aB⟩:=NJ slot query r a tv ax
   refine⟨⟨bX,by rw[bC];exact h1⟩,?_,?_⟩
   . rw[List.map_cons]
     show kR (lS slot query) (lS slot query (a++x::r) x.pl).1 (r.map bf.pl)=_
     rw[bC,ag]
     unfold ln
     rw[List.filter_cons_of_neg (by simp[uc])]
   . rw[List.map_cons]
     show(if (lS slot query (a++x::r) x.pl).2=true then[] else[x.pl])++o4 (lS slot query) (lS slot query (a++x::r) x.pl).1 (r.map bf.pl)=_
     rw[bC,aB]
     unfold ln
     rw[List.filter_cons_of_neg (by simp[uc])];rfl
  | false =>
   have bC:lS slot query (a++x::r) x.pl=(a++x::r,false):=by
    unfold lS;rw[nf];simp only;rw[uc];rfl
   have fV:a++x::r=(a++[x])++r:=by simp
   obtain⟨h1,ag,aB⟩:=NJ slot query r (a++[x]) (by rw[<-fV];exact aN) (λy aD=>by
    rcases List.mem_append.1 aD with aD|aD
    . exact ax y aD
    . simp only[List.mem_singleton] at aD;subst aD;exact uc)
   rw[<-fV] at h1 ag aB
   refine⟨⟨bX,by rw[bC];exact h1⟩,?_,?_⟩
   . rw[List.map_cons]
     show kR (lS slot query) (lS slot query (a++x::r) x.pl).1 (r.map bf.pl)=_
     rw[bC,ag]
     unfold ln
     rw[List.filter_cons_of_pos (by simp[uc])];simp
   . rw[List.map_cons]
     show(if (lS slot query (a++x::r) x.pl).2=true then[] else[x.pl])++o4 (lS slot query) (lS slot query (a++x::r) x.pl).1 (r.map bf.pl)=_
     rw[bC,aB]
     unfold ln
     rw[List.filter_cons_of_pos (by simp[uc])];rfl
end Go.ak
namespace Go.aF
open Go Go.ak
def jQ{R:Nat->Prop}(lG pf:TypeId)(dd:Nat)(q:List bf):dq R:=nN λx:Value×Nat×List ((Int×Int)×bf)=>pA (js x.2.2 q) (bl [ay dd [x.1,.map (some x.2.1)] lG,lE k4 pf 2 x.1 (q.map bf.pl),jk lF lk x.2.1 x.2.2])
theorem au.uw{R bV:Nat->Prop}{w0 w:World}{L:List (dq R)}{lG pf:TypeId}{dd iQ:Nat}{q:List bf}{m:List ((Int×Int)×bf)}{mS:Value}(h:au R bV w0 w L)(i:Nat)(ar:L[i]?=some (bl [ay dd [mS,.map (some iQ)] lG,lE k4 pf 2 mS (q.map bf.pl),jk lF lk iQ m]))(dB:js m q):au R bV w0 w (L.set i (jQ lG pf dd q)):=h.imp ar λF x=>⟨(mS,iQ,m),dB,x⟩
def Jd{R:Nat->Prop}(k1 aiE lG:TypeId)(ri kG ou dd iQ:Nat)(mS:Value)(slot query:Int)(q:List bf):dq R:=nN λm:List ((Int×Int)×bf)=>pA (js m q) (bl [ay ri [.int .i64 slot] k1,ay kG [ptr dd 0] aiE,ay ou [.int .i64 query] k1,ay dd [mS,.map (some iQ)] lG,jk lF lk iQ m])
structure NK(P:Program){b8 α:Type}(kP:FuncId)(first cap:List Value)(val:α->Value)(A:b8->dq (λ_=>False))(ok:b8->α->Prop)(f:b8->α->b8×Bool):Prop where
 cl:b7 P kP=true
 call:∀s F w x,(A s).p F w->(∀b,F b->b<w.heap.size)->ok s x->Calls P kP (first++[val x]++cap).toArray w (ao λaC an=>aC=.bool (f s x).2/\Mod F w an/\∃F',(A (f s x).1).p F' an/\∀b,F' b->b<an.heap.size/\(F b\/w.heap.size<=b))
theorem aiF{slot query:Int}{q:List bf}{p:Int×Int}{x:bf}(ah:x∈q)(hp:x.pl=p)(aN:(q.map bf.pl).Nodup):lS slot query q p=if uv slot query x=true then(q.filter (λy=>decide (y.pl≠p)),true) else(q,false):=by
 subst hp;unfold lS;rw[I' aN ah]
end Go.aF
namespace Go.ak
open Go.aF
structure vr{b8 α:Type}(f:b8->α->b8×Bool)(s:b8)(l:List α)(k:Nat):Prop where
 no:o4 f s (l.take k)=l.take k
theorem vr.start{b8 α:Type}(f:b8->α->b8×Bool)(s:b8)(l:List α):vr f s l 0:=⟨rfl⟩
theorem vr.next{b8 α:Type}{f:b8->α->b8×Bool}{s:b8}{l:List α}{k:Nat}{x:α}(h:vr f s l k)(ah:l[k]?=some x)(ab:(f (kR f s (l.take k)) x).2=false):vr f s l (k+1):=⟨by
 rw[Jb ah,ab,h.no,List.take_add_one,ah];rfl⟩
theorem vr.all{b8 α:Type}{f:b8->α->b8×Bool}{s:b8}{l:List α}{k:Nat}(h:vr f s l k)(hk:l.length<=k):o4 f s l=l:=by
 have:=h.no;rwa[List.take_of_length_le hk] at this
structure sG{b8 α:Type}(f:b8->α->b8×Bool)(s:b8)(l cur:List α)(i j:Nat):Prop where
 len:cur.length=l.length
 Fq:i<=j
 kept:cur.take i=o4 f s (l.take j)
 rest:cur.drop j=l.drop j
theorem sG.at{b8 α:Type}{f:b8->α->b8×Bool}{s:b8}{l cur:List α}{i j:Nat}(h:sG f s l cur i j){x:α}(ah:cur[j]?=some x):l[j]?=some x:=by
 have h1:=congrArg (λz:List α=>z[0]?) h.rest;simp only[List.getElem?_drop,Nat.add_zero] at h1;rw[<-h1];exact ah
theorem sG.start{b8 α:Type}{f:b8->α->b8×Bool}{s:b8}{l:List α}{k:Nat}{x:α}(h:vr f s l k)(ah:l[k]?=some x)(ab:(f (kR f s (l.take k)) x).2=true):sG f s l l k (k+1):=⟨rfl,Nat.le_succ _,by rw[Jb ah,ab,h.no];simp,rfl⟩
theorem sG.off{b8 α:Type}{f:b8->α->b8×Bool}{s:b8}{l cur:List α}{i j:Nat}(h:sG f s l cur i j){x:α}(ah:l[j]?=some x)(ab:(f (kR f s (l.take j)) x).2=true):sG f s l cur i (j+1):=
 ⟨h.len,Nat.le_succ_of_le h.Fq,by rw[Jb ah,ab,h.kept];simp,by rw[<-List.drop_drop,h.rest,List.drop_drop]⟩
theorem sG.on{b8 α:Type}{f:b8->α->b8×Bool}{s:b8}{l cur:List α}{i j:Nat}(h:sG f s l cur i j){x:α}(ah:l[j]?=some x)(ab:(f (kR f s (l.take j)) x).2=false):sG f s l (cur.set i x) (i+1) (j+1):=by
 have bn:=(List.getElem?_eq_some_iff.1 ah).1;have ar:i<cur.length:=(by have:=h.Fq;have:=h.len;omega);refine⟨by rw[List.length_set];exact h.len,Nat.succ_le_succ h.Fq,?_,?_⟩
 . rw[Jb ah,ab,<-h.kept,List.take_add_one,List.getElem?_set_self ar,List.take_set_of_le (Nat.le_refl _)];rfl
 . rw[List.drop_set_of_lt (by have:=h.Fq;omega),<-List.drop_drop,h.rest,List.drop_drop]
theorem sG.fin{b8 α:Type}{f:b8->α->b8×Bool}{s:b8}{l cur:List α}{i j:Nat}(h:sG f s l cur i j)(bn:l.length<=j):cur.take i=o4 f s l:=by rw[h.kept,List.take_of_length_le bn]
theorem aiG{x a:bf}:Fp x a=true↔x.query>a.query\/x.query=a.query/\x.seq>a.seq:=by unfold Fp;simp
theorem Fs{q:List bf}{a:bf}(h:¬ (0<=a.slot/\a.slot<4/\0<=a.shard/\a.shard<6)):nt q a=false/\gf q a=q:=by
 have:nt q a=false:=by unfold nt I_;rw[decide_eq_false h];rfl
 exact⟨this,by unfold gf;rw[this];rfl⟩
theorem NL{q:List bf}{a x:bf}(ah:ll q a.pl=some x)(h:x.query>a.query\/x.query=a.query/\x.seq>a.seq):nt q a=false/\gf q a=q:=by
 have:nt q a=false:=by unfold nt;rw[ah];simp only[aiG.2 h];simp
 exact⟨this,by unfold gf;rw[this];rfl⟩
theorem Je{q:List bf}{a x:bf}(a':0<=a.slot/\a.slot<4/\0<=a.shard/\a.shard<6)(ah:ll q a.pl=some x)(h:¬ (x.query>a.query\/x.query=a.query/\x.seq>a.seq)):nt q a=true/\gf q a=q.map λx=>if x.pl=a.pl then a else x:=by
 have aN:Fp x a=false:=(by unfold Fp;exact decide_eq_false h);have:nt q a=true:=by unfold nt I_;rw[ah,decide_eq_true a'];simp[aN]
 exact⟨this,by unfold gf;rw[if_pos this,ah]⟩
theorem W_{q:List bf}{a:bf}(a':0<=a.slot/\a.slot<4/\0<=a.shard/\a.shard<6)(ah:ll q a.pl=none):nt q a=true/\gf q a=q++[a]:=by
 have:nt q a=true:=by unfold nt I_;rw[ah,decide_eq_true a'];rfl
 exact⟨this,by unfold gf;rw[if_pos this,ah]⟩
theorem aiH(q:List bf)(slot query:Int):(ln q slot query).length<=q.length:=List.length_filter_le _ _
theorem aiI{α:Type}{l o:List α}{i:Nat}{x:α}(h:o=l.take i)(ah:l[i]?=some x):o++[x]=l.take (i+1):=by
 rw[h,List.take_add_one,ah];rfl
end Go.ak
namespace Go.ak
open Go.aF
def W'(n:Int):Bool:=decide (0<=n/\n<=2147483647)
def vt(l:List Int):Bool:=l.all W'
def zg(x:b6):Bool:=decide (0<=x.cq/\x.cq<=4) && word x.word
def tw(slot shard:Int):Bool:=decide (0<=slot/\slot<4/\0<=shard/\shard<6)
def Xa:b6:=⟨0,[]⟩
def wH(a:bf):Bool:=if a.first=true then decide (a.after=Xa) else zg a.after
def nV(a:bf):Bool:=wH a && tw a.slot a.shard && vt [a.query,a.seq,a.f'] && asked a.text && decide (0<=a.k/\a.k<=4/\1<=a.batch/\a.batch<=5)
theorem Xb{l:List Int}{i:Nat}{x:Int}(ah:l[i]?=some x)(h:¬ (0<=x/\x<=2147483647)):false=vt l:=by
 symm;unfold vt;rw[List.all_eq_false];exact⟨x,List.mem_of_getElem? ah,by unfold W';simpa using h⟩
theorem Xc{l:List Int}{i:Nat}(h:∀z∈l.take i,0<=z/\z<=2147483647)(ar:l.length<=i):true=vt l:=by
 symm;rw[List.take_of_length_le ar] at h;unfold vt;rw[List.all_eq_true];intro z cS;exact decide_eq_true (h z cS)
theorem Xd{l:List Int}{i:Nat}{x:Int}(h:∀z∈l.take i,0<=z/\z<=2147483647)(ah:l[i]?=some x)(ag:0<=x/\x<=2147483647):∀z∈l.take (i+1),0<=z/\z<=2147483647:=by
 intro z cS;rw[List.take_add_one,ah] at cS;simp only[Option.toList_some,List.mem_append,List.mem_singleton] at cS;rcases cS with cS|rfl
 . exact h z cS
 . exact ag
theorem Xe{x:b6}(h:¬ (0<=x.cq/\x.cq<=4)):false=zg x:=by unfold zg;rw[decide_eq_false h];rfl
theorem Xf{x:b6}{b:Bool}(h:0<=x.cq/\x.cq<=4)(ab:b=word x.word):b=zg x:=by unfold zg;rw[decide_eq_true h,ab];rfl
theorem aiJ{slot shard:Int}{b:Bool}{p:Prop}[Decidable p](ab:b=decide p)(h:p↔(0<=slot/\slot<4/\0<=shard/\shard<6)):b=tw slot shard:=by
 unfold tw;rw[ab];exact decide_eq_decide.2 h
theorem aiK{slot shard:Int}(h:¬ (0<=slot/\slot<4/\0<=shard/\shard<6)):false=tw slot shard:=(decide_eq_false h).symm
theorem NM{a:bf}{b:Bool}(h:a.first=true)(ab:b=decide (a.after=Xa)):b=wH a:=by unfold wH;rw[if_pos h];exact ab
theorem NN{a:bf}{b:Bool}(h:a.first=false)(ab:b=zg a.after):b=wH a:=by unfold wH;rw[h];exact ab
theorem aiL{a:bf}(h:wH a=false):false=nV a:=by unfold nV;rw[h];rfl
theorem aiM{a:bf}(h:tw a.slot a.shard=false):false=nV a:=by unfold nV;rw[h];simp
theorem aiN{a:bf}(h:vt [a.query,a.seq,a.f']=false):false=nV a:=by unfold nV;rw[h];simp
theorem aiO{a:bf}(h:asked a.text=false):false=nV a:=by unfold nV;rw[h];simp
theorem aiP{a:bf}(h:¬ (0<=a.k/\a.k<=4/\1<=a.batch/\a.batch<=5)):false=nV a:=by unfold nV;rw[decide_eq_false h];simp
theorem aiQ{a:bf}{b:Bool}(h1:wH a=true)(ag:tw a.slot a.shard=true)(aB:vt [a.query,a.seq,a.f']=true)(bE:asked a.text=true)(c3:0<=a.k/\a.k<=4/\1<=a.batch)(ab:b=decide (a.batch<=5)):b=nV a:=by
 unfold nV;rw[h1,ag,aB,bE,ab];simp only[Bool.true_and];exact decide_eq_decide.2 aa
end Go.ak
namespace Go.aF
open Go
def Ft:Nat->Env->Option Value
 | _,[]=>none
 | i,(j,v)::r=>match Nat.beq i j with
  | true=>some v
  | false=>Ft i r
theorem NO:∀(i:Nat) (E:Env),Ft i E=mJ i E
 | _,[]=>rfl
 | i,(j,v)::r=>by
  unfold Ft mJ
  simp only
  cases Nat.beq i j with
  | true=>rfl
  | false=>exact NO i r
def xW(E:Env):Operand->Option Value
 | .tmp t=>Ft t E
 | .const v=>some v
 | .global g=>some (.pointer (some ⟨g,0,none⟩))
 | .func f=>some (.func (.func f) #[] #[])
theorem A_(E:Env)(x:Operand):xW E x=aP E x:=by
 cases x with
 | tmp t=>exact NO t E
 | _=>rfl
def Jf(n:Nat)(ops:Array Oper)(E:Env):Option (Nat×Bool)->Option Bool
 | none=>some true
 | some (j,b)=>match (ops[j]?).bind (·.dst) with
  | some d=>match Ft d E with
   | some (.bool c)=>match Nat.blt d n with
    | true=>some (c==b)
    | false=>none
   | some (.tuple _)=>some false
   | _=>none
  | none=>none
theorem C9(n:Nat)(ops:Array Oper)(E:Env)(g:Option (Nat×Bool)):Jf n ops E g=want n ops E g:=by
 unfold Jf want;simp only[NO];rfl
def xX(E:Env):Op->Option Value
 | .move x=>xW E x
 | .assign x=>xW E x
 | .pick c x y=>match xW E c with
  | some (.bool true)=>xW E x
  | some (.bool false)=>xW E y
  | _=>none
 | .extract x i=>match xW E x with
  | some (.tuple vs)=>vs[i]?
  | _=>none
 | .nilCheck x=>match xW E x with
  | some (.pointer (some ⟨b,o,none⟩))=>some (.pointer (some ⟨b,o,none⟩))
  | _=>none
 | _=>none
inductive zh where
 | it (k:List Item)
 | op (ops:Array Oper) (l:List Oper) (k:List Item)
def go(n:Nat):Nat->zh->Env->Option (zh×Env)
 | 0,p,E=>some (p,E)
 | m+1,.it (.code (.seq x y)::k),E=>go n m (.it (.code x::.code y::k)) E
 | m+1,.it (.code .skip::k),E=>go n m (.it k) E
 | m+1,.it (.code (.block id c)::k),E=>go n m (.it (.code c::.inBlock id::k)) E
 | m+1,.it (.inBlock _::k),E=>go n m (.it k) E
 | m+1,.it (.code (.exit id)::k),E=>match exitTo id k with
  | some jz=>go n m (.it jz) E
  | none=>none
 | m+1,.it (.code (.cond c x y)::k),E=>match xW E c with
  | some (.bool true)=>go n m (.it (.code x::k)) E
  | some (.bool false)=>go n m (.it (.code y::k)) E
  | _=>none
 | m+1,.it (.code (.region _ ops false)::k),E=>go n m (.op ops ops.toList k) E
 | m+1,.op _ [] k,E=>go n m (.it k) E
 | m+1,.op ops (o::l) k,E=>match kj n o.dst with
  | true=>match Jf n ops E o.guard with
   | some true=>match xX E o.op with
    | some v=>match o.dst with
     | some d=>go n m (.op ops l k) ((d,v)::E)
     | none=>go n m (.op ops l k) E
    | none=>none
   | some false=>match o.dst with
    | some d=>go n m (.op ops l k) ((d,undef)::E)
    | none=>go n m (.op ops l k) E
   | none=>none
  | false=>none
 | _+1,_,_=>none
section
variable {P:Program} {f:FuncId} {R:Ending->World->Prop} {n:Nat} {w:World}
def zh.h(P:Program)(f:FuncId)(R:Ending->World->Prop)(n:Nat)(w:World):zh->Env->Prop
 | .it k,E=>hx P f R n E k w
 | .op ops l k,E=>fN P f R n ops l E k w
theorem Jg{E:Env}{C:World->Prop}{o:Oper}{v:Value}(h:xX E o.op=some v):bz P o E C v:=by
 obtain⟨d,op,ty,pos,af,gd⟩:=o
 cases op with
 | move x=>simp only[xX,A_] at h;exact bz.move h
 | assign x=>simp only[xX,A_] at h;exact bz.assign h
 | pick c x y =>
  simp only[xX,A_] at h;split at h
  . rename_i al;exact bz.ab' al h
  . rename_i al;exact bz.aca al h
  . cases h
 | extract x i =>
  simp only[xX,A_] at h;split at h
  . rename_i ah;exact bz.extract ah h
  . cases h
 | nilCheck x =>
  simp only[xX,A_] at h;split at h
  . rename_i ah;cases h;exact bz.adr ah
  . cases h
 | _=>simp[xX] at h
theorem Jh:∀(m:Nat) (p:zh) (E:Env) {Ji:zh} {jd:Env},go n m p E=some (Ji,jd)->zh.h P f R n w Ji jd->zh.h P f R n w p E:=by
 intro m
 induction m with
 | zero =>
  intro p E Ji jd h ag;simp only[go,Option.some.injEq,Prod.mk.injEq] at h;obtain⟨rfl,rfl⟩:=h;exact ag
 | succ m cc =>
  intro p E Ji jd h ag
  cases p with
  | it k =>
   cases k with
   | nil=>simp[go] at h
   | cons x k =>
    cases x with
    | code c =>
     cases c with
     | seq x y=>exact abG (cc _ _ h ag)
     | skip=>exact abH (cc _ _ h ag)
     | block id c=>exact abI (cc _ _ h ag)
     | exit id =>
      unfold go at h;split at h
      . rename_i hk;exact abK hk (cc _ _ h ag)
      . cases h
     | cond c x y =>
      unfold go at h;split at h
      . rename_i al;rw[A_] at al;exact abL al (cc _ _ h ag)
      . rename_i al;rw[A_] at al;exact abM al (cc _ _ h ag)
      . cases h
     | region id ops aiR =>
      cases aiR with
      | true=>simp[go] at h
      | false =>
       have aB:fN P f R n ops ops.toList E k w:=cc _ _ h ag;have bE:=abR (id:=id) (l:=ops.toList) aB;rwa[Array.toArray_toList] at bE
     | _=>simp[go] at h
    | inBlock id=>exact abJ (cc _ _ h ag)
    | _=>simp[go] at h
  | op ops l k =>
   cases l with
   | nil=>exact fN.nil (cc _ _ h ag)
   | cons o l =>
    unfold go at h;split at h
    . rename_i hd;split at h
      . rename_i hw;rw[C9] at hw;split at h
        . rename_i v cN;split at h
          . rename_i d nW;refine fN.q (Jg cN) hw hd ?_;rw[nW];exact cc _ _ h ag
          . rename_i nW;refine fN.q (Jg cN) hw hd ?_;rw[nW];exact cc _ _ h ag
        . cases h
      . rename_i hw;rw[C9] at hw;split at h
        . rename_i d nW;refine fN.et hw hd ?_;rw[nW];exact cc _ _ h ag
        . rename_i nW;refine fN.et hw hd ?_;rw[nW];exact cc _ _ h ag
      . cases h
    . cases h
theorem hx.ae{E jd:Env}{k jz:List Item}(m:Nat)(h:aF.go n m (.it k) E=some (.it jz,jd))(ag:hx P f R n jd jz w):hx P f R n E k w:=Jh m (.it k) E h ag
theorem hx.go{E jd:Env}{k jz:List Item}{ops:Array Oper}{l:List Oper}(m:Nat)(h:aF.go n m (.it k) E=some (.op ops l jz,jd))(ag:fN P f R n ops l jd jz w):hx P f R n E k w:=Jh m (.it k) E h ag
theorem fN.ae{E jd:Env}{k jz:List Item}{ops:Array Oper}{l:List Oper}(m:Nat)(h:aF.go n m (.op ops l k) E=some (.it jz,jd))(ag:hx P f R n jd jz w):fN P f R n ops l E k w:=Jh m (.op ops l k) E h ag
theorem fN.go{E jd:Env}{k jz:List Item}{ops Xg:Array Oper}{l j2:List Oper}(m:Nat)(h:aF.go n m (.op ops l k) E=some (.op Xg j2 jz,jd))(ag:fN P f R n Xg j2 jd jz w):fN P f R n ops l E k w:=Jh m (.op ops l k) E h ag
end
end Go.aF
set_option linter.unusedSectionVars false
namespace Go.aF
open Go
section
variable {P:Program} {f:FuncId} {R:Ending->World->Prop} {n:Nat}
theorem fN.z{ops:Array Oper}{o:Oper}{l:List Oper}{E:Env}{k:List Item}{w:World}{v:Value}(dB:bz P o E (λan=>an=w) v)(h:fN P f R n ops l (pu o.dst v E) k w)
 (hw:want n ops E o.guard=some true:=by exact rfl) (hd:kj n o.dst=true:=by exact rfl):fN P f R n ops (o::l) E k w:=fN.q dB hw hd h
theorem fN.dN{ops:Array Oper}{o:Oper}{l:List Oper}{E:Env}{k:List Item}{w:World}{c:Bool}(dB:bz P o E (λan=>an=w) (.bool c))(h:∀b,b=c->fN P f R n ops l (pu o.dst (.bool b) E) k w)
 (hw:want n ops E o.guard=some true:=by exact rfl) (hd:kj n o.dst=true:=by exact rfl):fN P f R n ops (o::l) E k w:=fN.dd dB hw hd h
theorem fN.ac{ops:Array Oper}{o:Oper}{l:List Oper}{E:Env}{k:List Item}{w:World}(ax:gF P o E w (λv an=>fN P f R n ops l (pu o.dst v E) k an))
 (hw:want n ops E o.guard=some true:=by exact rfl) (hd:kj n o.dst=true:=by exact rfl):fN P f R n ops (o::l) E k w:=fN.act hw hd ax
theorem fN.bh{ops:Array Oper}{o:Oper}{l:List Oper}{E:Env}{k:List Item}{w:World}{p:Prop}{i:Decidable p}(dB:bz P o E (λan=>an=w) (.bool (@decide p i)))(a8:p->fN P f R n ops l (pu o.dst (.bool true) E) k w)(bC:¬ p->fN P f R n ops l (pu o.dst (.bool false) E) k w)
 (hw:want n ops E o.guard=some true:=by exact rfl) (hd:kj n o.dst=true:=by exact rfl):fN P f R n ops (o::l) E k w:=fN.dd dB hw hd λb ab=>by
 cases b
 . exact bC (of_decide_eq_false ab.symm)
 . exact a8 (of_decide_eq_true ab.symm)
theorem fN.gg{ops:Array Oper}{o:Oper}{l:List Oper}{E:Env}{k:List Item}{w:World}{α:Type}[BEq α][LawfulBEq α]{a c:α}(dB:bz P o E (λan=>an=w) (.bool (a==c)))(a8:a=c->fN P f R n ops l (pu o.dst (.bool true) E) k w)(bC:a≠c->fN P f R n ops l (pu o.dst (.bool false) E) k w)
 (hw:want n ops E o.guard=some true:=by exact rfl) (hd:kj n o.dst=true:=by exact rfl):fN P f R n ops (o::l) E k w:=fN.dd dB hw hd λb ab=>by
 cases b
 . exact bC (ne_of_beq_false ab.symm)
 . exact a8 (eq_of_beq ab.symm)
theorem fN.mg{ops:Array Oper}{o:Oper}{l:List Oper}{E:Env}{k:List Item}{w:World}{α:Type}[BEq α][LawfulBEq α]{a c:α}(dB:bz P o E (λan=>an=w) (.bool (!(a==c))))(a8:a≠c->fN P f R n ops l (pu o.dst (.bool true) E) k w)(bC:a=c->fN P f R n ops l (pu o.dst (.bool false) E) k w)
 (hw:want n ops E o.guard=some true:=by exact rfl) (hd:kj n o.dst=true:=by exact rfl):fN P f R n ops (o::l) E k w:=fN.dd dB hw hd λb ab=>by
 cases b
 . exact bC (Hu ab)
 . exact a8 (Ht ab)
theorem fN.qE{ops:Array Oper}{o:Oper}{l:List Oper}{E:Env}{k:List Item}{w:World}{c:Bool}(dB:bz P o E (λan=>an=w) (.bool c))(al:c=true)(h:fN P f R n ops l (pu o.dst (.bool true) E) k w)
 (hw:want n ops E o.guard=some true:=by exact rfl) (hd:kj n o.dst=true:=by exact rfl):fN P f R n ops (o::l) E k w:=fN.q (al▸dB) hw hd h
theorem fN.kS{ops:Array Oper}{o:Oper}{l:List Oper}{E:Env}{k:List Item}{w:World}{c:Bool}(dB:bz P o E (λan=>an=w) (.bool c))(al:c=false)(h:fN P f R n ops l (pu o.dst (.bool false) E) k w)
 (hw:want n ops E o.guard=some true:=by exact rfl) (hd:kj n o.dst=true:=by exact rfl):fN P f R n ops (o::l) E k w:=fN.q (al▸dB) hw hd h
theorem bz.fX{E:Env}{d:Option Tmp}{ty:TypeId}{pos:String}{af:Array Edge}{gd:Option (Nat×Bool)}{w:World}{t:TypeId}{x:Operand}{b off m by_:Nat}{z cs:List Value}{v:Value}{e:TypeId}(a8:eu P t=some (false,m,by_,z))(ab:du w b cs e)
 (ah:aP E x=some (ptr b off):=by exact rfl) (al:cs[off]?=some v:=by exact rfl):bz P ⟨d,.load t x,ty,pos,af,gd⟩ E (λan=>an=w) v:=bz.cd a8 ah λ_ e=>e▸ab.cell off _ al
theorem bz.dO{E:Env}{d:Option Tmp}{ty:TypeId}{pos:String}{af:Array Edge}{gd:Option (Nat×Bool)}{w:World}{t:TypeId}{x:Operand}{b off m by_:Nat}{z:List Value}{v:Value}(a8:eu P t=some (false,m,by_,z))(a':Row w b off [v])
 (ah:aP E x=some (ptr b off):=by exact rfl):bz P ⟨d,.load t x,ty,pos,af,gd⟩ E (λan=>an=w) v:=bz.cd a8 ah λ_ e=>e▸a'
theorem fN.a7{ops:Array Oper}{l:List Oper}{E:Env}{k:List Item}{w:World}{d d2:Option Tmp}{ty aiS:TypeId}{pos aiT:String}{af aiU:Array Edge}{gd Xh:Option (Nat×Bool)}{t t2:TypeId}{x x2:Operand}{i b Jj off o m by_:Nat}{z cs:List Value}{v:Value}{e:TypeId}
 (bC:dI P t i=some o) (a8:eu P t2=some (false,m,by_,z)) (ab:du w b cs e) (h:fN P f R n ops l (pu d2 v (pu d (ptr b (Jj+o)) E)) k w)
 (ah:aP E x=some (ptr b Jj):=by exact rfl) (cJ:aP (pu d (ptr b (Jj+o)) E) x2=some (ptr b off):=by exact rfl) (al:cs[off]?=some v:=by exact rfl)
 (hw:want n ops E gd=some true:=by exact rfl) (hd:kj n d=true:=by exact rfl) (ey:want n ops (pu d (ptr b (Jj+o)) E) Xh=some true:=by exact rfl) (NP:kj n d2=true:=by exact rfl) :
 fN P f R n ops (⟨d,.fieldAddr t x i,ty,pos,af,gd⟩::⟨d2,.load t2 x2,aiS,aiT,aiU,Xh⟩::l) E k w:=
 fN.q (bz.fieldAddr bC ah) hw hd (fN.q (bz.fX a8 ab cJ al) ey NP h)
theorem gF.st{E:Env}{K:Value->World->Prop}{d:Option Tmp}{ty:TypeId}{pos:String}{af:Array Edge}{gd:Option (Nat×Bool)}{w:World}{t e:TypeId}{x y:Operand}{v:Value}{b off n by_:Nat}{g:Bool}{z cs vs:List Value}(a8:eu P t=some (g,n,by_,z))(ab:du w b cs e)
 (eC:∀an,Mod (λi=>i+1=b+1) w an->du an b (cs.take off++vs++cs.drop (off+n)) e->K undef an)
 (ah:aP E x=some (ptr b off):=by exact rfl) (aD:aP E y=some v:=by exact rfl) (cN:v.cells.toList=vs:=by exact rfl) (aN:vs.length=n:=by exact rfl) (h1:vs.all (·.oneCell')=true:=by exact rfl) (bk:(off+n).ble cs.length=true:=by exact rfl) :
 gF P ⟨d,.store t x y,ty,pos,af,gd⟩ E w K:=gF.store a8 ah aD cN aN h1 ab (Nat.le_of_ble_eq_true bk) λan hm _ hk=>eC an hm hk
theorem dj{a b:Nat}(h:a.ble b=true:=by exact rfl):a<=b:=Nat.le_of_ble_eq_true h
theorem zi{p:Prop}[Decidable p](h:true=decide p):p:=of_decide_eq_true h.symm
theorem zj{p:Prop}[Decidable p](h:false=decide p):¬ p:=of_decide_eq_false h.symm
end
section
variable {R bV:Nat->Prop} {w0 w an:World} {L:List (dq R)} {i:Nat} {A:dq R}
theorem au.k{b:Nat}{cs:List Value}{e:TypeId}(h:au R bV w0 w L)(i:Nat)(ar:L[i]?=some (ay b cs e):=by exact rfl):du w b cs e:=h.adG ar
theorem au.C_(is Jk:List Nat)(h:au R bV w0 w L)(bk:((is++Jk).all λi=>decide (i<L.length))=true)(aN:(is++Jk).Nodup):au R bV w0 w ((is.filterMap λi=>L[i]?)++[bl (Jk.filterMap λi=>L[i]?)]):=by
 have h1:=h.yW (is++Jk) bk aN;rw[List.filterMap_append] at h1;exact h1.close
theorem au.un(i:Nat)(h:au R bV w0 w L){L2:List (dq R)}(ar:L[i]?=some (bl L2))(is:List Nat)(bk:((is++[i]).all λi=>decide (i<L.length))=true)(aN:(is++[i]).Nodup):au R bV w0 w ((is.filterMap λi=>L[i]?)++L2):=by
 have h1:=h.yW (is++[i]) bk aN;rw[List.filterMap_append,List.filterMap_cons,ar] at h1;exact h1.open
theorem au.tx(h:au R bV w0 w L)(i:Nat)(ar:L[i]?=some A):Mod bV w0 w/\∃F',A.p F' w/\∀b,F' b->b<w.heap.size/\(bV b\/w0.heap.size<=b):=by
 obtain⟨F,h1,ag,_⟩:=h.act ar;exact⟨h.mod,F,h1,λb ab=>⟨(ag b ab).2,(ag b ab).1.1⟩⟩
theorem au.rt{v gS:Value}(h:au R bV w0 w L)(i:Nat)(ar:L[i]?=some A)(cN:v=gS):ao (λaC ai=>aC=gS/\Mod bV w0 ai/\∃bw,A.p bw ai/\∀b,bw b->b<ai.heap.size/\(bV b\/w0.heap.size<=b)) (.returned v) w:=by
 obtain⟨h1,F,ag,aB⟩:=h.tx i ar;exact⟨v,rfl,cN,h1,F,ag,aB⟩
theorem au.ty(A':dq R)(i:Nat)(h:au R bV w0 w L)(ar:L[i]?=some A)(bg:∀F,A.p F w->A'.p F w):au R bV w0 w (L.set i A'):=h.imp ar bg
end
section
variable {R bV:Nat->Prop} {w0 w:World} {L:List (dq R)}
theorem au.Xi(h:au R bV w0 w L)(k3:L=[]:=by exact rfl):au R bV w0 w []:=k3▸h
theorem au.cj{fi:dq R}(h:au R bV w0 w L)(k3:L=[fi]:=by exact rfl):au R bV w0 w [fi]:=k3▸h
theorem au.bO{fi fT:dq R}(h:au R bV w0 w L)(k3:L=[fi,fT]:=by exact rfl):au R bV w0 w [fi,fT]:=k3▸h
theorem au.cm{fi fT gH:dq R}(h:au R bV w0 w L)(k3:L=[fi,fT,gH]:=by exact rfl):au R bV w0 w [fi,fT,gH]:=k3▸h
theorem au.bT{fi fT gH hK:dq R}(h:au R bV w0 w L)(k3:L=[fi,fT,gH,hK]:=by exact rfl):au R bV w0 w [fi,fT,gH,hK]:=k3▸h
theorem au.cU{fi fT gH hK iF:dq R}(h:au R bV w0 w L)(k3:L=[fi,fT,gH,hK,iF]:=by exact rfl):au R bV w0 w [fi,fT,gH,hK,iF]:=k3▸h
theorem au.n6{fi fT gH hK iF jR:dq R}(h:au R bV w0 w L)(k3:L=[fi,fT,gH,hK,iF,jR]:=by exact rfl):au R bV w0 w [fi,fT,gH,hK,iF,jR]:=k3▸h
theorem au.n7{fi fT gH hK iF jR kT:dq R}(h:au R bV w0 w L)(k3:L=[fi,fT,gH,hK,iF,jR,kT]:=by exact rfl):au R bV w0 w [fi,fT,gH,hK,iF,jR,kT]:=k3▸h
theorem au.n8{fi fT gH hK iF jR kT mC:dq R}(h:au R bV w0 w L)(k3:L=[fi,fT,gH,hK,iF,jR,kT,mC]:=by exact rfl):au R bV w0 w [fi,fT,gH,hK,iF,jR,kT,mC]:=k3▸h
theorem au.ix{fi fT gH hK iF jR kT mC pg:dq R}(h:au R bV w0 w L)(k3:L=[fi,fT,gH,hK,iF,jR,kT,mC,pg]:=by exact rfl):au R bV w0 w [fi,fT,gH,hK,iF,jR,kT,mC,pg]:=k3▸h
theorem au.n10{fi fT gH hK iF jR kT mC pg qF:dq R}(h:au R bV w0 w L)(k3:L=[fi,fT,gH,hK,iF,jR,kT,mC,pg,qF]:=by exact rfl):au R bV w0 w [fi,fT,gH,hK,iF,jR,kT,mC,pg,qF]:=k3▸h
theorem au.n11{fi fT gH hK iF jR kT mC pg qF sH:dq R}(h:au R bV w0 w L)(k3:L=[fi,fT,gH,hK,iF,jR,kT,mC,pg,qF,sH]:=by exact rfl):au R bV w0 w [fi,fT,gH,hK,iF,jR,kT,mC,pg,qF,sH]:=k3▸h
theorem au.n12{fi fT gH hK iF jR kT mC pg qF sH zk:dq R}(h:au R bV w0 w L)(k3:L=[fi,fT,gH,hK,iF,jR,kT,mC,pg,qF,sH,zk]:=by exact rfl):au R bV w0 w [fi,fT,gH,hK,iF,jR,kT,mC,pg,qF,sH,zk]:=k3▸h
end
section
variable {R bV:Nat->Prop} {w0 w:World} {L:List (dq R)}
theorem au.aK{fi:dq R}(h:au R bV w0 w L)(is:List Nat)(lH:Nat)(bk:((is++[lH]).all λi=>decide (i<L.length))=true:=by exact rfl)(aN:(is++[lH]).Nodup:=by decide)(bH:L[lH]?=some fi:=by exact rfl):au R bV w0 w ((is.filterMap λi=>L[i]?)++[bl [fi]]):=by
 have ah:=h.C_ is [lH] bk aN;simp only[List.filterMap_cons,List.filterMap_nil,bH] at ah;exact ah
theorem au.aR{fi fT:dq R}(h:au R bV w0 w L)(is:List Nat)(lH nu:Nat)(bk:((is++[lH,nu]).all λi=>decide (i<L.length))=true:=by exact rfl)(aN:(is++[lH,nu]).Nodup:=by decide)(bH:L[lH]?=some fi:=by exact rfl)(h1:L[nu]?=some fT:=by exact rfl):au R bV w0 w ((is.filterMap λi=>L[i]?)++[bl [fi,fT]]):=by
 have ah:=h.C_ is [lH,nu] bk aN;simp only[List.filterMap_cons,List.filterMap_nil,bH,h1] at ah;exact ah
theorem au.bx{fi fT gH:dq R}(h:au R bV w0 w L)(is:List Nat)(lH nu pL:Nat)(bk:((is++[lH,nu,pL]).all λi=>decide (i<L.length))=true:=by exact rfl)(aN:(is++[lH,nu,pL]).Nodup:=by decide)(bH:L[lH]?=some fi:=by exact rfl)(h1:L[nu]?=some fT:=by exact rfl)(ag:L[pL]?=some gH:=by exact rfl):au R bV w0 w ((is.filterMap λi=>L[i]?)++[bl [fi,fT,gH]]):=by
 have ah:=h.C_ is [lH,nu,pL] bk aN;simp only[List.filterMap_cons,List.filterMap_nil,bH,h1,ag] at ah;exact ah
theorem au.bK{fi fT gH hK:dq R}(h:au R bV w0 w L)(is:List Nat)(lH nu pL sI:Nat)(bk:((is++[lH,nu,pL,sI]).all λi=>decide (i<L.length))=true:=by exact rfl)(aN:(is++[lH,nu,pL,sI]).Nodup:=by decide)(bH:L[lH]?=some fi:=by exact rfl)(h1:L[nu]?=some fT:=by exact rfl)(ag:L[pL]?=some gH:=by exact rfl)(aB:L[sI]?=some hK:=by exact rfl):au R bV w0 w ((is.filterMap λi=>L[i]?)++[bl [fi,fT,gH,hK]]):=by
 have ah:=h.C_ is [lH,nu,pL,sI] bk aN;simp only[List.filterMap_cons,List.filterMap_nil,bH,h1,ag,aB] at ah;exact ah
theorem au.cC{fi fT gH hK iF:dq R}(h:au R bV w0 w L)(is:List Nat)(lH nu pL sI xY:Nat)(bk:((is++[lH,nu,pL,sI,xY]).all λi=>decide (i<L.length))=true:=by exact rfl)(aN:(is++[lH,nu,pL,sI,xY]).Nodup:=by decide)(bH:L[lH]?=some fi:=by exact rfl)(h1:L[nu]?=some fT:=by exact rfl)(ag:L[pL]?=some gH:=by exact rfl)(aB:L[sI]?=some hK:=by exact rfl)(bE:L[xY]?=some iF:=by exact rfl):au R bV w0 w ((is.filterMap λi=>L[i]?)++[bl [fi,fT,gH,hK,iF]]):=by
 have ah:=h.C_ is [lH,nu,pL,sI,xY] bk aN;simp only[List.filterMap_cons,List.filterMap_nil,bH,h1,ag,aB,bE] at ah;exact ah
theorem au.c'{fi fT gH hK iF jR:dq R}(h:au R bV w0 w L)(is:List Nat)(lH nu pL sI xY Jl:Nat)(bk:((is++[lH,nu,pL,sI,xY,Jl]).all λi=>decide (i<L.length))=true:=by exact rfl)(aN:(is++[lH,nu,pL,sI,xY,Jl]).Nodup:=by decide)(bH:L[lH]?=some fi:=by exact rfl)(h1:L[nu]?=some fT:=by exact rfl)(ag:L[pL]?=some gH:=by exact rfl)(aB:L[sI]?=some hK:=by exact rfl)(bE:L[xY]?=some iF:=by exact rfl)(c3:L[Jl]?=some jR:=by exact rfl):au R bV w0 w ((is.filterMap λi=>L[i]?)++[bl [fi,fT,gH,hK,iF,jR]]):=by
 have ah:=h.C_ is [lH,nu,pL,sI,xY,Jl] bk aN;simp only[List.filterMap_cons,List.filterMap_nil,bH,h1,ag,aB,bE,c3] at ah;exact ah
end
end Go.aF
namespace Go.aF
open Go
def gd(n:Nat)(A:Nat->Bool)(ops:Array Oper):Nat->List Nat->Env->Option (List Nat×Env)
 | 0,l,E=>some (l,E)
 | m+1,i::l,E=>match ops[i]? with
  | some o=>match kj n o.dst with
   | true=>match Jf n ops E o.guard with
    | some true=>match A i with
     | false=>match xX E o.op with
      | some v=>match o.dst with
       | some d=>gd n A ops m l ((d,v)::E)
       | none=>gd n A ops m l E
      | none=>none
     | true=>none
    | some false=>match o.dst with
     | some d=>gd n A ops m l ((d,undef)::E)
     | none=>gd n A ops m l E
    | none=>none
   | false=>none
  | none=>none
 | _+1,[],_=>none
section
variable {P:Program} {f:FuncId} {R:Ending->World->Prop} {n:Nat} {C:World->Prop} {A:Nat->Bool} {Z:Nat} {w:World}
theorem hQ.gd {ops:Array Oper} {k:List Item} (m:Nat) {l j2:List Nat} {E jd:Env} (h:aF.gd n A ops m l E=some (j2,jd)) (ag:hQ P f R n C A Z ops j2 jd k w):hQ P f R n C A Z ops l E k w:=by
 induction m generalizing l E with
 | zero =>
  simp only [aF.gd,Option.some.injEq,Prod.mk.injEq] at h;obtain ⟨rfl,rfl⟩:=h;exact ag
 | succ m cc =>
  cases l with
  | nil=>simp [aF.gd] at h
  | cons i l =>
   unfold aF.gd at h;split at h
   · rename_i o ee;split at h
     · rename_i hd;split at h
       · rename_i hw;rw [C9] at hw;split at h
         · rename_i bg;split at h
           · rename_i v cN;refine hQ.q ee bg (Jg cN) hw hd ?_;split at h
             · rename_i d nW; rw [nW]; exact cc h
             · rename_i nW; rw [nW]; exact cc h
           · cases h
         · cases h
       · rename_i hw;rw [C9] at hw;refine hQ.et ee hw hd ?_;split at h
         · rename_i d nW; rw [nW]; exact cc h
         · rename_i nW; rw [nW]; exact cc h
       · cases h
     · cases h
   · cases h
theorem hQ.z{ops:Array Oper}{o:Oper}{i:Nat}{l:List Nat}{E:Env}{k:List Item}{v:Value}(ee:ops[i]?=some o)(dB:bz P o E C v)(h:hQ P f R n C A Z ops l (pu o.dst v E) k w)
 (bg:A i=false:=by exact rfl) (hw:want n ops E o.guard=some true:=by exact rfl) (hd:kj n o.dst=true:=by exact rfl):hQ P f R n C A Z ops (i::l) E k w:=hQ.q ee bg dB hw hd h
theorem hQ.dN{ops:Array Oper}{o:Oper}{i:Nat}{l:List Nat}{E:Env}{k:List Item}{c:Bool}(ee:ops[i]?=some o)(dB:bz P o E C (.bool c))(h:∀b,b=c->hQ P f R n C A Z ops l (pu o.dst (.bool b) E) k w)
 (bg:A i=false:=by exact rfl) (hw:want n ops E o.guard=some true:=by exact rfl) (hd:kj n o.dst=true:=by exact rfl):hQ P f R n C A Z ops (i::l) E k w:=hQ.dd ee bg dB hw hd h
theorem hQ.bh{ops:Array Oper}{o:Oper}{i:Nat}{l:List Nat}{E:Env}{k:List Item}{p:Prop}{j:Decidable p}(ee:ops[i]?=some o)(dB:bz P o E C (.bool (@decide p j)))(a8:p->hQ P f R n C A Z ops l (pu o.dst (.bool true) E) k w)(bC:¬ p->hQ P f R n C A Z ops l (pu o.dst (.bool false) E) k w)
 (bg:A i=false:=by exact rfl) (hw:want n ops E o.guard=some true:=by exact rfl) (hd:kj n o.dst=true:=by exact rfl):hQ P f R n C A Z ops (i::l) E k w:=hQ.dd ee bg dB hw hd λb ab=>by
 cases b
 . exact bC (of_decide_eq_false ab.symm)
 . exact a8 (of_decide_eq_true ab.symm)
theorem hQ.gg{ops:Array Oper}{o:Oper}{i:Nat}{l:List Nat}{E:Env}{k:List Item}{α:Type}[BEq α][LawfulBEq α]{a c:α}(ee:ops[i]?=some o)(dB:bz P o E C (.bool (a==c)))(a8:a=c->hQ P f R n C A Z ops l (pu o.dst (.bool true) E) k w)(bC:a≠c->hQ P f R n C A Z ops l (pu o.dst (.bool false) E) k w)
 (bg:A i=false:=by exact rfl) (hw:want n ops E o.guard=some true:=by exact rfl) (hd:kj n o.dst=true:=by exact rfl):hQ P f R n C A Z ops (i::l) E k w:=hQ.dd ee bg dB hw hd λb ab=>by
 cases b
 . exact bC (ne_of_beq_false ab.symm)
 . exact a8 (eq_of_beq ab.symm)
theorem hQ.mg{ops:Array Oper}{o:Oper}{i:Nat}{l:List Nat}{E:Env}{k:List Item}{α:Type}[BEq α][LawfulBEq α]{a c:α}(ee:ops[i]?=some o)(dB:bz P o E C (.bool (!(a==c))))(a8:a≠c->hQ P f R n C A Z ops l (pu o.dst (.bool true) E) k w)(bC:a=c->hQ P f R n C A Z ops l (pu o.dst (.bool false) E) k w)
 (bg:A i=false:=by exact rfl) (hw:want n ops E o.guard=some true:=by exact rfl) (hd:kj n o.dst=true:=by exact rfl):hQ P f R n C A Z ops (i::l) E k w:=hQ.dd ee bg dB hw hd λb ab=>by
 cases b
 . exact bC (Hu ab)
 . exact a8 (Ht ab)
theorem hQ.ac{ops:Array Oper}{o:Oper}{i:Nat}{l:List Nat}{E:Env}{k:List Item}(ee:ops[i]?=some o)(ax:gF P o E w (λv an=>(i=Z\/C an)/\hQ P f R n C A Z ops l (pu o.dst v E) k an))
 (bg:A i=true:=by exact rfl) (hw:want n ops E o.guard=some true:=by exact rfl) (hd:kj n o.dst=true:=by exact rfl):hQ P f R n C A Z ops (i::l) E k w:=hQ.act ee bg hw hd ax
end
end Go.aF
namespace Go.pt
open Go Go.aF
section
variable {P:Program} {f:FuncId} {R:Ending->World->Prop} {n:Nat} {C:World->Prop} {A N:Nat->Bool} {Z:Nat} {w eH:World}
theorem iL.gd {ops:Array Oper} {k:List Item} (m:Nat) {l j2:List Nat} {E jd:Env} (h:aF.gd n A ops m l E=some (j2,jd)) (ag:iL P f R n C A N eH Z ops j2 jd k w):iL P f R n C A N eH Z ops l E k w:=by
 induction m generalizing l E with
 | zero =>
  simp only [aF.gd,Option.some.injEq,Prod.mk.injEq] at h;obtain ⟨rfl,rfl⟩:=h;exact ag
 | succ m cc =>
  cases l with
  | nil=>simp [aF.gd] at h
  | cons i l =>
   unfold aF.gd at h;split at h
   · rename_i o ee;split at h
     · rename_i hd;split at h
       · rename_i hw;rw [C9] at hw;split at h
         · rename_i bg;split at h
           · rename_i v cN;refine iL.q ee bg (Jg cN) hw hd ?_;split at h
             · rename_i d nW; rw [nW]; exact cc h
             · rename_i nW; rw [nW]; exact cc h
           · cases h
         · cases h
       · rename_i hw;rw [C9] at hw;refine iL.et ee hw hd ?_;split at h
         · rename_i d nW; rw [nW]; exact cc h
         · rename_i nW; rw [nW]; exact cc h
       · cases h
     · cases h
   · cases h
theorem iL.mT{ops:Array Oper}{o:Oper}{i:Nat}{l:List Nat}{E:Env}{k:List Item}{v:Value}(ee:ops[i]?=some o)(dB:bz P o E (λan=>an=eH) v)(h:iL P f R n C A N eH Z ops l (pu o.dst v E) k w)
 (bg:A i=false:=by exact rfl) (hr:N i=true:=by exact rfl) (hw:want n ops E o.guard=some true:=by exact rfl) (hd:kj n o.dst=true:=by exact rfl):iL P f R n C A N eH Z ops (i::l) E k w:=iL.ab4 ee bg hr dB hw hd h
theorem iL.ov{ops:Array Oper}{o:Oper}{i:Nat}{l:List Nat}{E:Env}{k:List Item}{v:Value}(ee:ops[i]?=some o)(dB:bz P o E C v)(h:iL P f R n C A N eH Z ops l (pu o.dst v E) k w)
 (bg:A i=false:=by exact rfl) (hr:N i=false:=by exact rfl) (hw:want n ops E o.guard=some true:=by exact rfl) (hd:kj n o.dst=true:=by exact rfl):iL P f R n C A N eH Z ops (i::l) E k w:=iL.RT ee bg hr dB hw hd h
theorem iL.ac{ops:Array Oper}{o:Oper}{i:Nat}{l:List Nat}{E:Env}{k:List Item}(ee:ops[i]?=some o)(ax:gF P o E w (λv an=>(i=Z\/C an)/\iL P f R n C A N eH Z ops l (pu o.dst v E) k an))
 (bg:A i=true:=by exact rfl) (hw:want n ops E o.guard=some true:=by exact rfl) (hd:kj n o.dst=true:=by exact rfl):iL P f R n C A N eH Z ops (i::l) E k w:=iL.act ee bg hw hd ax
end
end Go.pt
namespace Go.aF
theorem cK{p:Prop}(h:p:=by first|omega|assumption):p:=h
theorem aV{p:Prop}(h:p:=by first|assumption|omega):p:=h
theorem ol{p:Prop}(h:p:=by first|omega|(simp only[List.length_append,List.length_cons,List.length_nil];omega)|(simp;omega)):p:=h
theorem fG{p:Prop}(h:p:=by unfold maxLen;first|omega|(simp only[List.length_append,List.length_cons,List.length_nil];omega)|(simp;omega)):p:=h
section
variable {R bV:Nat->Prop} {w0 w an:World} {L:List (dq R)} {A:dq R} {α:Type} {enc:α->List Value} {e:TypeId} {sz:Nat} {v:Value} {l:List α}
theorem au.bW(h:au R bV w0 w L)(i:Nat)(ar:L[i]?=some (aS enc e sz v l):=by exact rfl):∃g,Acc enc e sz w g v l/\g<=w.heap.size/\∀(an:World) (fy:Nat) (gS:Value) (j2:List α),Mod (ca g) w an->Acc enc e sz an fy gS j2->(fy=g\/w.heap.size<fy)->au R bV w0 an (L.set i (aS enc e sz gS j2)):=h.adI ar
theorem au.ez(h:au R bV w0 w L)(i:Nat)(ar:L[i]?=some A:=by exact rfl):∃F,A.p F w/\(∀b,F b->((bV b\/w0.heap.size<=b)/\¬ R b)/\b<w.heap.size)/\∀(an:World) (F':Nat->Prop) (A':dq R),Mod F w an->A'.p F' an->(∀b,F' b->b<an.heap.size/\(F b\/w.heap.size<=b))->au R bV w0 an (L.set i A'):=h.act ar
theorem au.nO(h:au R bV w0 w L)(i:Nat)(ar:L[i]?=some A:=by exact rfl):∃F,A.p F w/\∀b,F b->b<w.heap.size:=h.get ar
theorem au.fK{α:Type}{A:α->dq R}(h:au R bV w0 w L)(i:Nat)(ar:L[i]?=some (nN A):=by exact rfl):∃a,au R bV w0 w (L.set i (A a)):=h.Mn ar
theorem au.gh{vs:List (Value×List α)}(h:au R bV w0 w L)(i k:Nat)(ar:L[i]?=some (fe enc vs):=by exact rfl)(hk:vs[k]?=some (v,l):=by exact rfl):aq enc w (dr 0 w.heap.size) v l:=h.b9 ar hk
theorem au.u(h:au R bV w0 w L)(i:Nat)(is:List Nat){L2:List (dq R)}(ar:L[i]?=some (bl L2):=by exact rfl)(bk:((is++[i]).all λi=>decide (i<L.length))=true:=by exact rfl)(aN:(is++[i]).Nodup:=by decide):au R bV w0 w ((is.filterMap λi=>L[i]?)++L2):=h.un i ar is bk aN
theorem au.dw(h:au R bV w0 w L)(is:List Nat)(bk:(is.all λi=>decide (i<L.length))=true:=by exact rfl)(aN:is.Nodup:=by decide):au R bV w0 w (is.filterMap λi=>L[i]?):=h.yW is bk aN
theorem au.c_{b:Nat}{cs cs':List Value}{e:TypeId}(h:au R bV w0 w L)(i:Nat)(hm:Mod (ca (b+1)) w an)(hk:du an b cs' e)(ar:L[i]?=some (ay b cs e):=by exact rfl):au R bV w0 an (L.set i (ay b cs' e)):=h.o9 ar hm hk
theorem aq.fv{F:Nat->Prop}(h:aq enc w F v l){P:Program}{t:TypeId}{by_:Nat}{g:Bool}{z:List Value}(a8:P.underlying t=some (.slice e))(he:eu P e=some (g,sz,by_,z))(dM:∀x,(enc x).length=sz)(i:Nat)(ar:i<l.length:=by omega):
 ∃x b off,l[i]?=some x/\(∀w,(Instr.indexAt t v (.int .i64 (i:Int))).run P w=.ok (ptr b off) w)/\F b/\Row w b off (enc x):=aq.jq h a8 he dM (k:=.i64) (n:=(i:Int)) i rfl ar
end
section
variable {w:World} {b:Nat} {cs:List Value} {e:TypeId}
theorem du.c1{fi:Value}(h:du w b cs e)(al:cs=[fi]:=by exact rfl):du w b [fi] e:=al▸h
theorem du.c2{fi fT:Value}(h:du w b cs e)(al:cs=[fi,fT]:=by exact rfl):du w b [fi,fT] e:=al▸h
theorem du.hG{fi fT gH:Value}(h:du w b cs e)(al:cs=[fi,fT,gH]:=by exact rfl):du w b [fi,fT,gH] e:=al▸h
theorem du.xZ{fi fT gH hK iF jR kT:Value}(h:du w b cs e)(al:cs=[fi,fT,gH,hK,iF,jR,kT]:=by exact rfl):du w b [fi,fT,gH,hK,iF,jR,kT] e:=al▸h
theorem du.vu{fi fT gH hK iF jR kT mC:Value}(h:du w b cs e)(al:cs=[fi,fT,gH,hK,iF,jR,kT,mC]:=by exact rfl):du w b [fi,fT,gH,hK,iF,jR,kT,mC] e:=al▸h
theorem du.wI{fi fT gH hK iF jR kT mC pg qF sH:Value}(h:du w b cs e)(al:cs=[fi,fT,gH,hK,iF,jR,kT,mC,pg,qF,sH]:=by exact rfl):du w b [fi,fT,gH,hK,iF,jR,kT,mC,pg,qF,sH] e:=al▸h
theorem du.Xj{fi fT gH hK iF jR kT mC pg qF sH zk:Value}(h:du w b cs e)(al:cs=[fi,fT,gH,hK,iF,jR,kT,mC,pg,qF,sH,zk]:=by exact rfl):du w b [fi,fT,gH,hK,iF,jR,kT,mC,pg,qF,sH,zk] e:=al▸h
theorem du.wJ{fi fT gH hK iF jR kT mC pg qF sH zk Xk Xl Xm Xn Xo Xp:Value}(h:du w b cs e)(al:cs=[fi,fT,gH,hK,iF,jR,kT,mC,pg,qF,sH,zk,Xk,Xl,Xm,Xn,Xo,Xp]:=by exact rfl):du w b [fi,fT,gH,hK,iF,jR,kT,mC,pg,qF,sH,zk,Xk,Xl,Xm,Xn,Xo,Xp] e:=al▸h
end
abbrev eT(da db:Value)(c:ak.cE)(l:List Value):List Value:=da::db::.int .i64 c.workers::.int .i64 c.lP::.int .i64 c.s9::.int .i64 c.batch::.int .i64 c.s_::.int .i64 c.s'::.int .i64 c.first::.int .i64 c.cap::.int .i64 c.ta::.int .i64 c.tc::l
abbrev oM(da db:Value)(c:ak.cE):Value:=.agg #[da,db,.int .i64 c.workers,.int .i64 c.lP,.int .i64 c.s9,.int .i64 c.batch,.int .i64 c.s_,.int .i64 c.s',.int .i64 c.first,.int .i64 c.cap,.int .i64 c.ta,.int .i64 c.tc]
end Go.aF
abbrev cp(w:Go.World):Nat->Prop:=Go.aF.dr 0 w.heap.size
theorem ew(w:Go.World):Go.aF.Ext w w:=Go.aF.Mod.refl _ w
abbrev bG(g:Go.FuncId)(a:Array Go.Value)(w:Go.World)(R:Go.Ending->Go.World->Prop):Prop:=Go.Calls Go.Proofs.Tryz.prog g a w R
namespace Go.Proofs
open Tryz
open Go.aF Go.ak
theorem mixed:Tryz.prog.follows .mixedOrders=true:=aQ
theorem aI:eu Tryz.prog 3=some (false,1,8,[ad]):=aQ
theorem fj:eu Tryz.prog 4=some (false,1,1,[.bool false]):=aQ
theorem jC:eu Tryz.prog 5=some (false,1,1,[.int .u8 0]):=aQ
theorem dT:eu Tryz.prog 9=some (false,1,16,[aE []]):=aQ
theorem hV:eu Tryz.prog 21=some (false,1,4,[.int .i32 0]):=aQ
theorem ph:eu Tryz.prog 23=some (false,1,24,[.slice none 0 0]):=aQ
theorem vv:eu Tryz.prog 24=some (false,1,24,[.slice none 0 0]):=aQ
theorem j7:eu Tryz.prog 26=some (true,12,128,[.slice none 0 0,.slice none 0 0,ad,ad,ad,ad,ad,ad,ad,ad,ad,ad]):=aQ
theorem gB:eu Tryz.prog 33=some (true,2,24,[ad,aE []]):=aQ
theorem eA:eu Tryz.prog 35=some (true,11,104,[ad,ad,ad,ad,ad,aE [],ad,ad,.bool false,ad,aE []]):=aQ
theorem tz:eu Tryz.prog 47=some (false,1,24,[.slice none 0 0]):=aQ
theorem pM:eu Tryz.prog 57=some (false,1,24,[.slice none 0 0]):=aQ
theorem vw:eu Tryz.prog 93=some (false,1,8,[.pointer none]):=aQ
theorem rj:eu Tryz.prog 99=some (false,1,8,[.pointer none]):=aQ
theorem mh:eu Tryz.prog 110=some (true,2,24,[ad,aE []]):=aQ
theorem qG:eu Tryz.prog 120=some (false,1,24,[.slice none 0 0]):=aQ
theorem C':eu Tryz.prog 157=some (false,1,8,[.nilFunc]):=aQ
theorem NQ:eu Tryz.prog 162=some (false,1,8,[.map none]):=aQ
theorem kc:eu Tryz.prog 172=some (true,2,16,[ad,ad]):=aQ
theorem x0:eu Tryz.prog 173=some (false,1,24,[.slice none 0 0]):=aQ
theorem x1:eu Tryz.prog 174=some (false,1,8,[.map none]):=aQ
theorem lI:eu Tryz.prog 219=some (false,1,24,[.slice none 0 0]):=aQ
theorem oN:eu Tryz.prog 221=some (true,2,32,[.bool false,.slice none 0 0]):=aQ
theorem Fu:eu Tryz.prog 225=some (false,1,24,[.slice none 0 0]):=aQ
theorem sJ:eu Tryz.prog 228=some (true,3,48,[ad,.slice none 0 0,aE []]):=aQ
theorem eP:eu Tryz.prog 233=some (true,2,16,[.int .i32 0,ad]):=aQ
theorem kd:eu Tryz.prog 238=some (true,2,32,[.bool false,.slice none 0 0]):=aQ
theorem oO:eu Tryz.prog 262=some (false,1,24,[.slice none 0 0]):=aQ
theorem Ba:eu Tryz.prog 268=some (true,2,16,[ad,ad]):=aQ
theorem Xq:eu Tryz.prog 281=some (false,1,8,[.map none]):=aQ
theorem Fv:eu Tryz.prog 285=some (false,1,8,[.nilFunc]):=aQ
theorem Da:dI Tryz.prog 26 0=some 0:=aQ
theorem vx:dI Tryz.prog 26 1=some 1:=aQ
theorem x3:dI Tryz.prog 26 2=some 2:=aQ
theorem Jm:dI Tryz.prog 26 3=some 3:=aQ
theorem Xr:dI Tryz.prog 26 4=some 4:=aQ
theorem Xs:dI Tryz.prog 26 5=some 5:=aQ
theorem Xt:dI Tryz.prog 26 6=some 6:=aQ
theorem Xu:dI Tryz.prog 26 7=some 7:=aQ
theorem Jn:dI Tryz.prog 26 8=some 8:=aQ
theorem Xv:dI Tryz.prog 26 9=some 9:=aQ
theorem Xw:dI Tryz.prog 26 10=some 10:=aQ
theorem Xx:dI Tryz.prog 26 11=some 11:=aQ
theorem x4:dI Tryz.prog 33 0=some 0:=aQ
theorem Bb:dI Tryz.prog 33 1=some 1:=aQ
theorem tA:dI Tryz.prog 35 0=some 0:=aQ
theorem sK:dI Tryz.prog 35 1=some 1:=aQ
theorem rk:dI Tryz.prog 35 2=some 2:=aQ
theorem x5:dI Tryz.prog 35 3=some 3:=aQ
theorem Bc:dI Tryz.prog 35 4=some 4:=aQ
theorem Db:dI Tryz.prog 35 5=some 5:=aQ
theorem Bd:dI Tryz.prog 35 6=some 6:=aQ
theorem Be:dI Tryz.prog 35 7=some 7:=aQ
theorem Jo:dI Tryz.prog 35 8=some 8:=aQ
theorem Bf:dI Tryz.prog 35 9=some 9:=aQ
theorem wK:dI Tryz.prog 110 0=some 0:=aQ
theorem Bg:dI Tryz.prog 110 1=some 1:=aQ
theorem Jp:dI Tryz.prog 123 0=some 0:=aQ
theorem Dc:dI Tryz.prog 123 1=some 1:=aQ
theorem NR:dI Tryz.prog 164 0=some 0:=aQ
theorem Jq:dI Tryz.prog 164 1=some 1:=aQ
theorem aiV:dI Tryz.prog 172 0=some 0:=aQ
theorem x6:dI Tryz.prog 176 0=some 0:=aQ
theorem x7:dI Tryz.prog 176 1=some 1:=aQ
theorem aiW:dI Tryz.prog 217 0=some 0:=aQ
theorem Jr:dI Tryz.prog 217 1=some 1:=aQ
theorem r4:dI Tryz.prog 217 2=some 2:=aQ
theorem aiX:dI Tryz.prog 221 0=some 0:=aQ
theorem wL:dI Tryz.prog 221 1=some 1:=aQ
theorem Fw:dI Tryz.prog 228 0=some 0:=aQ
theorem Fx:dI Tryz.prog 228 1=some 1:=aQ
theorem Fy:dI Tryz.prog 228 2=some 2:=aQ
theorem rl:dI Tryz.prog 233 0=some 0:=aQ
theorem rm:dI Tryz.prog 233 1=some 1:=aQ
theorem Fz:dI Tryz.prog 238 0=some 0:=aQ
theorem ux:dI Tryz.prog 238 1=some 1:=aQ
theorem oP:dI Tryz.prog 264 0=some 0:=aQ
theorem Dd:dI Tryz.prog 268 0=some 0:=aQ
theorem NS:dI Tryz.prog 268 1=some 1:=aQ
theorem zl:dI Tryz.prog 283 0=some 0:=aQ
theorem Xy:dI Tryz.prog 283 1=some 1:=aQ
theorem NT(a b:b6)(w:World):(Op.equalIn 10000 33 (.agg #[U a.cq,aE a.word]) (.agg #[U b.cq,aE b.word])).run Tryz.prog w=.ok (decide (a=b)) w:=
 Cv (ks:=[(0,.int .i64),(1,.str)]) c0 c0 c0 (by
  obtain⟨a0,h9⟩:=a
  obtain⟨nc,aK⟩:=b
  (by_cases bH:a0=nc)<;>(first|(have g0:=beq_eq_false_iff_ne.2 bH)|(have g0:=beq_iff_eq.2 bH))<;>(by_cases h1:h9=aK)<;>(first|(have g1:=beq_eq_false_iff_ne.2 h1)|(have g1:=beq_iff_eq.2 h1))<;>simp[mx,nm,aE,toList_mk,bH,h1,g0,g1]) w
theorem aiY(a b:(Int×Int))(w:World):(Op.equalIn 10000 172 (.agg #[U a.1,U a.2]) (.agg #[U b.1,U b.2])).run Tryz.prog w=.ok (decide (a=b)) w:=
 Cv (ks:=[(0,.int .i64),(1,.int .i64)]) c0 c0 c0 (by
  obtain⟨a0,h9⟩:=a
  obtain⟨nc,aK⟩:=b
  (by_cases bH:a0=nc)<;>(first|(have g0:=beq_eq_false_iff_ne.2 bH)|(have g0:=beq_iff_eq.2 bH))<;>(by_cases h1:h9=aK)<;>(first|(have g1:=beq_eq_false_iff_ne.2 h1)|(have g1:=beq_iff_eq.2 h1))<;>simp[mx,nm,aE,toList_mk,bH,h1,g0,g1]) w
theorem aiZ(a b:cg)(w:World):(Op.equalIn 10000 233 (.agg #[.int .i32 a.rune,U a.to]) (.agg #[.int .i32 b.rune,U b.to])).run Tryz.prog w=.ok (decide (a=b)) w:=
 Cv (ks:=[(0,.int .i32),(1,.int .i64)]) c0 c0 c0 (by
  obtain⟨a0,h9⟩:=a
  obtain⟨nc,aK⟩:=b
  (by_cases bH:a0=nc)<;>(first|(have g0:=beq_eq_false_iff_ne.2 bH)|(have g0:=beq_iff_eq.2 bH))<;>(by_cases h1:h9=aK)<;>(first|(have g1:=beq_eq_false_iff_ne.2 h1)|(have g1:=beq_iff_eq.2 h1))<;>simp[mx,nm,aE,toList_mk,bH,h1,g0,g1]) w
theorem NU:b7 Tryz.prog 23=true:=aQ
theorem NV:b7 Tryz.prog 25=true:=aQ
theorem NW:b7 Tryz.prog 39=true:=aQ
theorem ai0:b7 Tryz.prog 44=true:=aQ
theorem Xz:b7 Tryz.prog 54=true:=aQ
theorem ai1:b7 Tryz.prog 55=true:=aQ
theorem uy:b7 Tryz.prog 56=true:=aQ
theorem NX:b7 Tryz.prog 57=true:=aQ
theorem ai2:b7 Tryz.prog 58=true:=aQ
theorem ai3:b7 Tryz.prog 59=true:=aQ
theorem zm:b7 Tryz.prog 60=true:=aQ
theorem FA:b7 Tryz.prog 61=true:=aQ
theorem ai4:b7 Tryz.prog 79=true:=aQ
theorem ai5:b7 Tryz.prog 80=true:=aQ
theorem XA:b7 Tryz.prog 82=true:=aQ
theorem XB:b7 Tryz.prog 85=true:=aQ
theorem ai6:b7 Tryz.prog 90=true:=aQ
theorem ai7:b7 Tryz.prog 91=true:=aQ
theorem Js:b7 Tryz.prog 96=true:=aQ
theorem ai8:b7 Tryz.prog 97=true:=aQ
theorem ai9:b7 Tryz.prog 98=true:=aQ
theorem ai_:b7 Tryz.prog 99=true:=aQ
theorem ai':b7 Tryz.prog 100=true:=aQ
theorem NY:b7 Tryz.prog 102=true:=aQ
theorem NZ:b7 Tryz.prog 103=true:=aQ
theorem Jt:b7 Tryz.prog 104=true:=aQ
theorem XC:b7 Tryz.prog 105=true:=aQ
theorem aja:b7 Tryz.prog 106=true:=aQ
theorem N0:b7 Tryz.prog 107=true:=aQ
theorem ajb:b7 Tryz.prog 124=true:=aQ
theorem ajc:b7 Tryz.prog 125=true:=aQ
theorem N1:b7 Tryz.prog 126=true:=aQ
theorem ajd:b7 Tryz.prog 127=true:=aQ
theorem XD:b7 Tryz.prog 133=true:=aQ
theorem XE:b7 Tryz.prog 134=true:=aQ
theorem aje:b7 Tryz.prog 135=true:=aQ
theorem XF:b7 Tryz.prog 136=true:=aQ
theorem XG:b7 Tryz.prog 137=true:=aQ
theorem wM:b7 Tryz.prog 138=true:=aQ
theorem ajf:b7 Tryz.prog 139=true:=aQ
theorem ajg:b7 Tryz.prog 140=true:=aQ
theorem ajh:b7 Tryz.prog 141=true:=aQ
theorem aji:b7 Tryz.prog 142=true:=aQ
theorem ajj:b7 Tryz.prog 143=true:=aQ
theorem XH:b7 Tryz.prog 144=true:=aQ
theorem De:b7 Tryz.prog 145=true:=aQ
theorem Ju:b7 Tryz.prog 146=true:=aQ
theorem Jv:b7 Tryz.prog 147=true:=aQ
theorem ajk:b7 Tryz.prog 148=true:=aQ
theorem ajl:b7 Tryz.prog 149=true:=aQ
theorem N2:b7 Tryz.prog 150=true:=aQ
theorem ajm:b7 Tryz.prog 166=true:=aQ
theorem XI:b7 Tryz.prog 170=true:=aQ
theorem XJ:b7 Tryz.prog 171=true:=aQ
theorem ajn:b7 Tryz.prog 172=true:=aQ
theorem ajo:b7 Tryz.prog 173=true:=aQ
theorem ajp:b7 Tryz.prog 174=true:=aQ
theorem ajq:b7 Tryz.prog 175=true:=aQ
theorem ajr:b7 Tryz.prog 176=true:=aQ
theorem N3:b7 Tryz.prog 177=true:=aQ
theorem XK:b7 Tryz.prog 178=true:=aQ
theorem ajs:b7 Tryz.prog 179=true:=aQ
theorem ajt:b7 Tryz.prog 180=true:=aQ
theorem aju:b7 Tryz.prog 181=true:=aQ
theorem ajv:b7 Tryz.prog 182=true:=aQ
theorem N4:b7 Tryz.prog 183=true:=aQ
theorem FB:b7 Tryz.prog 194=true:=aQ
theorem wN:b7 Tryz.prog 195=true:=aQ
theorem ajw:b7 Tryz.prog 196=true:=aQ
theorem Jw:b7 Tryz.prog 197=true:=aQ
theorem N5:b7 Tryz.prog 198=true:=aQ
theorem ajx:b7 Tryz.prog 208=true:=aQ
theorem XL:b7 Tryz.prog 209=true:=aQ
theorem XM:b7 Tryz.prog 210=true:=aQ
theorem ajy:b7 Tryz.prog 219=true:=aQ
end Go.Proofs
namespace Go.Proofs
open Tryz
open Go.aF Go.ak
theorem ajz{w0:World}(c:Nat)(b:UInt8)(gp:c<4294967296):
 bG 196 #[.int .u32 (c:Int),.int .u8 (b.toNat:Int)] w0 (ao λaC ai=>aC=.int .u32 ((vc c b.toNat:Nat):Int)/\Ext w0 ai):=by
 have bA:=ew w0;have Te:=b.toNat_lt;refine bQ func196 rfl ntmps196 rfl (.go 8 rfl (.z (.od c0 underlying213 rfl (IntWalk.u32_in _ aa)) (have asb:=xE (a:=c) (b:=b.toNat) aa aa;.z (.Mo (a:=c) (b:=b.toNat) rfl rfl aa aa) (.ae 8 rfl (dV (I:=λm E W=>∃(c1:Nat) (k:Nat),E=[(0,.int .u32 (c1:Int)),(10,U (k:Int))]/\m=8-k/\Ext w0 W/\w0.heap.size<=W.heap.size/\(c1=q8 k (c ^^^ b.toNat))/\(c1<4294967296)/\(k<=8)) ?_ ?_)))))
 . refine⟨_,_,⟨(c ^^^ b.toNat:Nat),(0:Nat),rfl,rfl,bA,Nat.le_refl _,dz,aa,aa⟩,bj⟩
 . rintro _ _ ai ⟨c1,k,rfl,rfl,bJ,hl,al,hP,x8⟩ b4;refine .go 2 rfl (.bh (.lt rfl rfl) (λaG=>?_) λaG=>?_)
   . refine .go 9 rfl (.z (.adP (a:=c1) rfl rfl aa) (.go 5 rfl (.z (.acR ((c1 / 2:Nat):Int) rfl rfl aa) (.go 5 rfl (.gg (.eq rfl rfl) (λaJ=>?_) λaJ=>?_)))))
     . exact .ae 1 rfl (have asc:=xE (a:=c1 / 2) (b:=3988292384) aa aa;.go 3 rfl (.z (.Mo (a:=c1 / 2) (b:=3988292384) rfl rfl aa aa) (.go 4 rfl (.z (.cb ((k+1:Nat):Int) rfl rfl aa) (.ae 2 rfl ((b4 _ _ _ ⟨((c1 / 2) ^^^ 3988292384:Nat),(k+1:Nat),rfl,rfl,bJ,aa,(by first|exact T8 al aa|exact T9 al aa|(exfalso;omega)),e',e'⟩ aa).sub bj))))))
     exact .go 5 rfl (.z (.cb ((k+1:Nat):Int) rfl rfl aa) (.ae 2 rfl ((b4 _ _ _ ⟨(c1 / 2:Nat),(k+1:Nat),rfl,rfl,bJ,aa,(by first|exact T8 al aa|exact T9 al aa|(exfalso;omega)),e',e'⟩ aa).sub bj)))
   exact .ae 9 rfl (aM func196 rfl rfl (ao.mk ⟨(congrArg (Value.int .u32) (by first|(rw[al,show k=8 from by omega];rfl)|(exfalso;omega))),bJ⟩))
theorem ajA{w0:World}(c:Nat){eh:Value}{b:List UInt8}(gp:c<4294967296)(gL:aq en w0 (cp w0) eh b)(ku:b.length<=4000000):
 bG 173 #[.int .u32 (c:Int),eh] w0 (ao λaC ai=>aC=.int .u32 ((AU c b:Nat):Int)/\Ext w0 ai):=by
 have bA:=ew w0;refine bQ func173 rfl ntmps173 rfl (.go 7 rfl (.z (.HW (a:=c) rfl aa) (.go 6 rfl (.z (.ct underlying120 (gL) rfl) (.ae 3 rfl (dV (I:=λm E W=>∃(c1:Nat) (k:Nat),E=[(0,.int .u32 (c1:Int)),(9,eh),(10,U (b.length:Int)),(11,U (k:Int))]/\m=b.length-k/\Ext w0 W/\w0.heap.size<=W.heap.size/\aq en W (cp w0) eh b/\(c1=rV (4294967295-c) (b.take k))/\(c1<4294967296)/\(k<=b.length)) ?_ ?_))))))
 . refine⟨_,_,⟨(4294967295-c:Nat),(0:Nat),rfl,rfl,bA,Nat.le_refl _,gL,dz,aa,aa⟩,bj⟩
 . rintro _ _ ai ⟨c1,k,rfl,rfl,bJ,hl,f1,al,hP,mU⟩ b4;refine .go 2 rfl (.bh (.lt rfl rfl) (λaG=>?_) λaG=>?_)
   . refine .ae 2 rfl ?_;obtain⟨aw,aR,e5,a_,bU,cA,jt,cF⟩:=aq.fO f1 underlying120 jC nd (k:=.i64) (n:=(k:Int)) (k) aa aV;refine .go 6 rfl (.z (.indexAddr rfl rfl bU) (.z (.dO jC cF) (.go 5 rfl (.ac (.aH ajw rfl (ajz (w0:=ai)  (c1) (aw) cK) ?_)))));rintro _ aZ ⟨rfl,av⟩;have f2:=f1.ext av;have bN:=bJ.ext av;have i':=av.size;exact .go 4 rfl (.z (.cb ((k+1:Nat):Int) rfl rfl aa) (.ae 2 rfl ((b4 _ _ _ ⟨(vc c1 aw.toNat:Nat),(k+1:Nat),rfl,rfl,bN,aa,f2,(by first|(rw[T7 a_,<-al])|(exfalso;omega)),(by first|exact AV hP aw.toNat_lt|(exfalso;omega)),e'⟩ aa).sub bj)))
   exact .go 7 rfl (.z (.HW (a:=c1) rfl aa) (.ae 2 rfl (aM func173 rfl rfl (ao.mk ⟨(congrArg (Value.int .u32) (by first|(rw[al,List.take_of_length_le aa];rfl)|(exfalso;omega))),bJ⟩))))
theorem XN{w0:World}{eh:Value}{b:List UInt8}(gL:aq en w0 (cp w0) eh b)(ku:b.length<=4000000):
 bG 137 #[eh] w0 (ao λaC ai=>aC=.int .u32 ((kE b:Nat):Int)/\Ext w0 ai):=by
 have bA:=ew w0;refine bQ func137 rfl ntmps137 rfl (.go 7 rfl (.ac (.aH ajo rfl (ajA (w0:=w0) (b:=b) (0) cK ((gL).cw (Nat.zero_le _) aa) lT) ?_)));rintro _ ai ⟨rfl,av⟩;have bJ:=bA.ext av;exact .ae 2 rfl (aM func137 rfl rfl (ao.mk ⟨(congrArg (Value.int .u32) dz),bJ⟩))
theorem FC{w0:World}{ky:Value}{s:List UInt8}(ow:aq en w0 (cp w0) ky s)(FD:s.length<=4000000):
 bG 61 #[ky] w0 (ao λaC ai=>(∃dn,Acc en 5 1 ai dn aC (s)/\(dn=0\/w0.heap.size<dn))/\Ext w0 ai):=by
 have bA:=ew w0;refine bQ func61 rfl ntmps61 rfl ?_;obtain⟨b1,b2,eb,cu⟩:=aq.isNil (ow);refine .go 8 rfl ?_;subst eb;refine .dN (.Mg underlying120 rfl rfl) λaK aG=>.ae 1 rfl ?_
 cases aK
 case true =>
  replace aG:=aG.symm;replace cu:=cu aG;exact .ae 5 rfl (aM func61 rfl rfl (ao.mk ⟨⟨0,Acc.cast Acc.nil Df,.inl rfl⟩,bA⟩))
 replace aG:=aG.symm;exact .go 4 rfl (.ac (.buildSlice [] underlying120 jC rfl rfl rfl b5 λai aR av aJ ef aW=>have f1:=ow.ext av;have bJ:=bA.ext av;have cA:=Acc.eD (enc:=en) aW ([]:List UInt8) 0 rfl nd rfl eU;.go 1 rfl (.ac (.append cA underlying120 jC rfl nd Cg rfl rfl (f1) ol fG λv1 g1 aZ cf aA b_ fH=>have bN:=Ext.hh bJ aA aa;.ae 2 rfl (aM func61 rfl rfl (ao.mk ⟨⟨_,Acc.cast cf Df,by omega⟩,bN⟩))))))
theorem wO{w0:World}{eh:Value}{b:List UInt8}(n:Int)(size:Nat)(gL:aq en w0 (cp w0) eh b)(ku:b.length<=4000000)(dM:size<=8):
 bG 195 #[eh,U n,U (size:Int)] w0 (ao λaC ai=>(∃dn,Acc en 5 1 ai dn aC (b++fl n size)/\(dn=0\/w0.heap.size<dn))/\Ext w0 ai):=by
 have bA:=ew w0;refine bQ func195 rfl ntmps195 rfl (.go 7 rfl (.ac (.aH FA rfl (FC (w0:=w0) (s:=b)  ((gL).cw (Nat.zero_le _) aa) aV) ?_)));rintro v1 ai ⟨⟨ig,h1,b_⟩,av⟩;have bJ:=bA.ext av;have hl:=av.size;refine .go 5 rfl (.z (.max rfl rfl) (.z (.min rfl rfl) ?_));rw[show(min (max (size:Int) 0) 8)=(size:Int) from by omega];refine .ae 9 rfl (dV (I:=λm E W=>∃(lJ:Value) (ke:Nat) (out:List UInt8) (i:Nat),E=[(1,U n),(2,U (size:Int)),(7,lJ),(14,U (size:Int)),(15,U (i:Int))]/\m=size-i/\Ext w0 W/\ai.heap.size<=W.heap.size/\Acc en 5 1 W ke lJ out/\(ke=0\/w0.heap.size<ke)/\(out=b++(fl n size).take i)/\(out.length=b.length+i)/\(i<=size)) ?_ ?_)
 . refine⟨_,_,⟨(v1:Value),(ig:Nat),((b):List UInt8),(0:Nat),rfl,rfl,bJ,Nat.le_refl _,h1,aa,di,di,aa⟩,bj⟩
 . rintro _ _ aZ ⟨lJ,ke,out,i,rfl,rfl,bN,i',cf,eE,ee,ik,ng⟩ b4;refine .go 2 rfl (.bh (.lt rfl rfl) (λaG=>?_) λaG=>?_)
   . refine .go 14 rfl (.z (.rJ c0 underlying260 rfl) (.go 1 rfl (.z (.h0 ((size:Int)-1) rfl rfl aa) (.go 1 rfl (.z (.h0 (((size:Int)-1)-(i:Int)) rfl rfl aa) (.z (.RV ((8*((size-1)-i):Nat):Int) rfl rfl aa) (.z (.od c0 underlying96 rfl (IntWalk.u64_in _ aa)) (.z (.Mp (8*((size-1)-i)) rfl rfl aa (by simp only[IntKind.bits];omega)) (.z (.sx c0 underlying5 rfl) (.ac (.buildSlice [(.int .u8 ((gG ((IntKind.u64.wrap n) / 2 ^ (8*((size-1)-i)))).toNat:Int):Value)] underlying120 jC rfl rfl rfl b5 λbp aR aA aJ cu aW=>have f2:=cf.ext aA;have cn:=bN.ext aA;have dp:=aq.eD (enc:=en) aW ([(gG ((IntKind.u64.wrap n) / 2 ^ (8*((size-1)-i))))]:List UInt8) 1 rfl rfl eU;.ac (.append f2 underlying120 jC rfl nd Cg rfl rfl (dp) ol fG λv2 g1 bZ dW aO jS ef=>?_))))))))))));have eL:=Ext.hh cn aO aa;exact .go 4 rfl (.z (.cb ((i+1:Nat):Int) rfl rfl aa) (.ae 2 rfl ((b4 _ _ _ ⟨(v2:Value),(g1:Nat),((out++[(gG ((IntKind.u64.wrap n) / 2 ^ (8*((size-1)-i))))]):List UInt8),(i+1:Nat),rfl,rfl,eL,aa,dW,aa,(by first|exact T' ee aa rfl|(exfalso;omega)),ap,e'⟩ aa).sub bj)))
   exact .ae 9 rfl (aM func195 rfl rfl (ao.mk ⟨⟨_,Acc.cast cf (by first|(rw[ee,List.take_of_length_le (by rw[ie];omega)])|(exfalso;omega)),by omega⟩,bN⟩))
theorem uz{p:Prop}(h:p:=by first|exact(H7 aa).1|exact(H7 aa).2|(rw[aN,<-(H8 aa).1,show i=size from by omega];simp)|exact(H8 aa).2|(exfalso;omega)):p:=h
theorem uA{p:Prop}(h:p:=by omega):p:=h
theorem XO{w0:World}{eh:Value}{b:List UInt8}(at_:Int)(size:Nat)(gL:aq en w0 (cp w0) eh b)(XP:bY at_)(ku:b.length<=4000000)(dM:1<=size/\size<=4):
 bG 136 #[eh,U at_,U (size:Int)] w0 (ao λaC ai=>∃eS gl,aC=.tuple #[eS,gl]/\eS=U (j' b at_ size)/\(∃cv:Bool,cv=(mN b at_ size)/\gl=.bool cv)/\Ext w0 ai):=by
 have bA:=ew w0;refine bQ func136 rfl ntmps136 rfl (.go 9 rfl (.bh (.lt rfl rfl) (λaG=>?_) λaG=>?_))
 . exact .ae 29 rfl (cO func136 rfl rfl rfl (ao.mk ⟨_,_,rfl,(cV uz),⟨_,uz,rfl⟩,bA⟩))
 refine .go 2 rfl (.bh (.gt rfl rfl) (λaJ=>?_) λaJ=>?_)
 . exact .ae 26 rfl (cO func136 rfl rfl rfl (ao.mk ⟨_,_,rfl,(cV uz),⟨_,uz,rfl⟩,bA⟩))
 refine .go 3 rfl (.bh (.lt rfl rfl) (λaX=>?_) λaX=>?_)
 . exact .ae 22 rfl (cO func136 rfl rfl rfl (ao.mk ⟨_,_,rfl,(cV uz),⟨_,uz,rfl⟩,bA⟩))
 refine .go 4 rfl (.z (.ct underlying120 (gL) rfl) (.bh (.gt rfl rfl) (λbs=>?_) λbs=>?_))
 . exact .ae 16 rfl (cO func136 rfl rfl rfl (ao.mk ⟨_,_,rfl,(cV uz),⟨_,uz,rfl⟩,bA⟩))
 refine .go 4 rfl (.z (.ct underlying120 (gL) rfl) (.go 1 rfl (.z (.h0 ((b.length:Int)-at_) rfl rfl uA) (.bh (.gt rfl rfl) (λcH=>?_) λcH=>?_))))
 . exact .ae 8 rfl (cO func136 rfl rfl rfl (ao.mk ⟨_,_,rfl,(cV uz),⟨_,uz,rfl⟩,bA⟩))
 refine .ae 15 rfl (dV (I:=λm E W=>∃(n:Nat) (i:Nat),E=[(0,eh),(1,U at_),(8,.int .u64 (n:Int)),(34,U (size:Int)),(35,U (i:Int))]/\m=size-i/\Ext w0 W/\w0.heap.size<=W.heap.size/\aq en W (cp w0) eh b/\(n=kY ((b.drop at_.toNat).take i))/\(i<=size)) ?_ ?_)
 . refine⟨_,_,⟨(0:Nat),(0:Nat),rfl,rfl,bA,Nat.le_refl _,gL,dz,uA⟩,bj⟩
 . rintro _ _ ai ⟨n,i,rfl,rfl,bJ,hl,f1,aN,ng⟩ b4;have nH:=Mx (i:=i) (l:=b.drop at_.toNat) uA;rw[<-aN] at nH;refine .go 2 rfl (.bh (.lt rfl rfl) (λcr=>?_) λcr=>?_)
   . refine .go 13 rfl (.z (.TJ (a:=n) rfl rfl aa) (.go 3 rfl (.z (.cb (at_+(i:Int)) rfl rfl uA) ?_)));obtain⟨aw,hb,e5,a_,bU,cA,jt,cF⟩:=aq.fO f1 underlying120 jC nd (k:=.i64) (n:=(at_+(i:Int))) ((at_+(i:Int)).toNat) uA aV;exact .z (.indexAddr rfl rfl bU) (.z (.dO jC cF) (have ajB:=aw.toNat_lt;.z (.od c0 underlying260 rfl (IntWalk.u64_in _ uA)) (.z (.TI (a:=n) (b:=aw.toNat) rfl rfl uA uA) (.go 4 rfl (.z (.cb ((i+1:Nat):Int) rfl rfl uA) (.ae 2 rfl ((b4 _ _ _ ⟨(n*256+aw.toNat:Nat),(i+1:Nat),rfl,rfl,bJ,uA,f1,(by first|refine Ub aN a_ ?_;omega|(exfalso;omega)),e'⟩ uA).sub bj)))))))
   exact .go 7 rfl (.z (.od c0 underlying3 rfl (IntWalk.i64_in _ uA)) (.ae 3 rfl (cO func136 rfl rfl rfl (ao.mk ⟨_,_,rfl,(cV uz),⟨_,uz,rfl⟩,bJ⟩))))
end Go.Proofs
