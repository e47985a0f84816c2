/-
  What the law WorkerDeaf needs, part 3 of 7: theory, and walks through the code. Names are said short.
-/
import Derived.Test.YtjideiielmlccaaGreatSWorkerDeafB
set_option linter.unusedVariables false
set_option linter.unusedSimpArgs false
set_option maxRecDepth 20000
set_option maxHeartbeats 8000000
namespace Go.ak
open Go.aH
theorem M7{a b c:Nat}(h:a ^^^ c=b ^^^ c):a=b:=by
 have:=congrArg (· ^^^ c) h;simpa[Nat.xor_assoc] using this
theorem VM{a b c:Nat}(h:c ^^^ a=c ^^^ b):a=b:=by
 rw[Nat.xor_comm c a,Nat.xor_comm c b] at h;exact M7 h
theorem VN{a:Nat}(h:a<2147483648):2147483648<=a ^^^ 3988292384:=by
 have h1:(a ^^^ 3988292384).testBit 31=true:=by
  rw[Nat.testBit_xor,Nat.testBit_lt_two_pow (show a<2 ^ 31 from h)];rfl
 refine Nat.le_of_not_lt λk=>?_
 rw[Nat.testBit_lt_two_pow (show a ^^^ 3988292384<2 ^ 31 from k)] at h1;cases h1
theorem af3{a b:Nat}(aw:a<4294967296)(ab:b<4294967296)(h:ua a=ua b):a=b:=by
 unfold ua at h;have asP:=VN (a:=a / 2) aa;have tb:=VN (a:=b / 2) aa;split at h<;>split at h
 . have:=M7 h;omega
 . omega
 . omega
 . omega
theorem M8{a b:Nat}(aw:a<4294967296)(ab:b<4294967296):∀k,q8 k a=q8 k b->a=b
 | 0,h=>h
 | k+1,h=>M8 aw ab k (af3 (Ib aw k) (Ib ab k) h)
theorem af4{c d x:Nat}(ao:c<4294967296)(hd:d<4294967296)(ag:x<256)(h:u9 c x=u9 d x):c=d:=
 M7 (M8 (xD ao aa) (xD hd aa) 8 h)
theorem af5{c x y:Nat}(ao:c<4294967296)(ag:x<256)(aD:y<256)(h:u9 c x=u9 c y):x=y:=
 VM (M8 (xD ao aa) (xD ao aa) 8 h)
theorem VO:∀(l:List UInt8) {c d:Nat},c<4294967296->d<4294967296->rS c l=rS d l->c=d
 | [],c,d,_,_,h=>h
 | x::l,c,d,ao,hd,h=>af4 ao hd x.toNat_lt (VO l (AW ao x.toNat_lt) (AW hd x.toNat_lt) h)
theorem VP(c:Nat)(a b:List UInt8):rS c (a++b)=rS (rS c a) b:=by unfold rS;rw[List.foldl_append]
theorem af6{l:List UInt8}{k:Nat}{x y:UInt8}(ag:l[k]?=some x)(aD:y≠x):kD (l.set k y)≠kD l:=by
 intro h;have hk:=(List.getElem?_eq_some_iff.1 ag).1
 have fS:l=l.take k++x::l.drop (k+1):=by
  have:=(List.getElem?_eq_some_iff.1 ag).2
  rw[<-this];simp
 have jd:l.set k y=l.take k++y::l.drop (k+1):=(by rw[List.set_eq_take_append_cons_drop,if_pos hk]);unfold kD AV at h;have h9:=Ic (l.set k y) (c:=4294967295-0) aa;have a2:=Ic l (c:=4294967295-0) aa;have ah:rS (4294967295-0) (l.set k y)=rS (4294967295-0) l:=(by omega);rw[jd] at ah
 conv at ah=>rhs;rw[fS]
 rw[VP,VP] at ah;have aK:=Ic (l.take k) (c:=4294967295-0) aa;have aB:=VO (l.drop (k+1)) (AW aK y.toNat_lt) (AW aK x.toNat_lt) ah;have bE:=af5 aK y.toNat_lt x.toNat_lt aB;exact aD (UInt8.toNat.inj bE)
theorem M9{b l:List UInt8}(h:l.length=4):j8 (b++l) (((b++l).length:Int)-4) 4=(kX l:Int):=by
 have bj:(b++l).length=b.length+4:=(by rw[List.length_append,h]);have bX:mI (b++l) (((b++l).length:Int)-4) 4=true:=(by unfold mI;exact decide_eq_true ⟨by omega,by omega,by omega,by omega,by omega⟩);unfold j8;rw[if_pos bX,show(((b++l).length:Int)-4).toNat=b.length from by omega,List.drop_left,show(4:Int).toNat=4 from rfl,List.take_of_length_le aa]
theorem VQ{b l:List UInt8}(h:l.length=4):(b++l).take ((b++l).length-4)=b:=by
 rw[List.length_append,h,Nat.add_sub_cancel];simp
theorem af7{N:List cw}{k:Nat}{x y:UInt8}(ag:(kY N)[k]?=some x)(aD:y≠x):iq ((kY N).set k y)=([],9):=by
 have hp:=ib (kD (hG N)) 4;have aT:=CL 0 (hG N);have af8:=Vv (x:=(kD (hG N):Int)) (.inr (.inr rfl):xJ 4) aa (by change (AV 0 (hG N):Int)<_;omega);have hk:=(List.getElem?_eq_some_iff.1 ag).1;unfold kY xE at ag hk ⊢;rw[List.length_append,hp] at hk;by_cases h:k<(hG N).length
 . rw[List.set_append_left _ _ h];rw[List.getElem?_append_left h] at ag;refine CT (by rw[List.length_append,hp];omega) ?_;rw[M9 hp,VQ hp,af8];intro e;exact af6 ag aD aa
 . rw[List.set_append_right _ _ aa];rw[List.getElem?_append_right aa] at ag;have wB:((fk (kD (hG N):Int) 4).set (k-(hG N).length) y).length=4:=(by rw[List.length_set,hp]);refine CT (by rw[List.length_append,wB];omega) ?_;rw[M9 wB,VQ wB];intro e;have jd:=MZ (.inr (.inr rfl):xJ 4) wB;rw[e] at jd
   have tP:(fk (kD (hG N):Int) 4)[k-(hG N).length]?=some y:=by
    rw[jd,List.getElem?_set_self (by rw[hp];omega)]
   rw[ag] at tP;exact aD (Option.some.inj tP).symm
theorem asQ{b r:List UInt8}{n:Nat}{a f a2:Int}{q:Bool}(h:ed b n (a,q)=(f,(a2,false))):ed (b++r) n (a,q)=(f,(a2,false)):=by
 cases bX:mI b a n with
 | false=>rw[y5 bX] at h;simp at h
 | true =>
  rw[vb bX] at h;have hk:=bX;unfold mI at hk;have hk:=of_decide_eq_true hk;have oK:mI (b++r) a n=true:=(by unfold mI;rw[List.length_append];exact decide_eq_true ⟨by omega,by omega,by omega,by omega,by omega⟩);rw[vb oK,<-h]
  have cI:j8 (b++r) a n=j8 b a n:=by
   unfold j8
   rw[if_pos bX,if_pos oK,List.drop_append_of_le_length aa,List.take_append_of_le_length (by rw[List.length_drop];omega)]
  rw[cI]
theorem af9{b:List UInt8}{s:Int×Bool}(h:s.2=true):∀n,(kr b n s).2=s
 | 0=>rfl
 | n+1=>by unfold kr;rw[if_pos h]
theorem VR{b:List UInt8}:∀(n:Nat) {s:Int×Bool},(kr b n s).2.2=false->s.2=false:=λn s h=>by
 cases aT:s.2 with
 | false=>rfl
 | true=>rw[af9 aT,aT] at h;cases h
theorem af_{b:List UInt8}{s:Int×Bool}(h:s.2=true):∀n,(lb b n s).2=s
 | 0=>rfl
 | n+1=>by unfold lb;rw[if_pos h]
theorem VS{b:List UInt8}:∀(n:Nat) {s:Int×Bool},(lb b n s).2.2=false->s.2=false:=λn s h=>by
 cases aT:s.2 with
 | false=>rfl
 | true=>rw[af_ aT,aT] at h;cases h
theorem af'{b:List UInt8}(h:(iq b).2=0):∃c a0 N,8<=b.length/\j8 b ((b.length:Int)-4) 4=(kD (b.take (b.length-4)):Int)/\b.take 4=[73,78,75,49]/\ed (b.take (b.length-4)) 2 (4,false)=(c,(a0,false))/\lb (b.take (b.length-4)) c.toNat (a0,false)=(N,((b.length:Int)-4,false))/\lz N≠[]/\(iq b).1=lz N:=by
 by_cases h1:b.length<4
 . rw[ID h1] at h;cases h
 by_cases ah:¬ j8 b ((b.length:Int)-4) 4=(kD (b.take (b.length-4)):Int)
 . rw[CT h1 ah] at h;cases h
 have ah:=Classical.not_not.1 ah;by_cases aB:b.length-4<4\/¬ b.take 4=[73,78,75,49]
 . rw[MX h1 ah aB] at h;cases h
 obtain⟨⟨c,a0,q0⟩,bE⟩:∃x,ed (b.take (b.length-4)) 2 (4,false)=x:=⟨_,rfl⟩;obtain⟨⟨N,a,q⟩,c6⟩:∃x,lb (b.take (b.length-4)) c.toNat (a0,q0)=x:=⟨_,rfl⟩;by_cases eZ:q=true\/¬ a=(b.length:Int)-4
 . rw[IE h1 ah aB bE.symm c6 eZ] at h;cases h
 by_cases kB:lz N=[]
 . rw[Vr h1 ah aB bE.symm c6 eZ kB] at h;cases h
 have dH:q=false:=by cases q with
  | false=>rfl
  | true=>exact absurd (.inl rfl) eZ
 have aw:a=(b.length:Int)-4:=Classical.byContradiction λk=>eZ (.inr k)
 subst dH;subst aw;have M_:q0=false:=VS _ (by rw[c6]);subst M_;exact⟨c,a0,N,by omega,ah,Classical.byContradiction λk=>aB (.inr k),bE,c6,kB,by rw[MY h1 ah aB bE.symm c6 eZ kB]⟩
theorem aga{b:List UInt8}(h:(iq b).2≠0):(iq b).1=[]:=by
 unfold iq at h ⊢;split
 . rfl
 split
 . rfl
 split
 . rfl
 split
 . rfl
 split
 . rfl
 . rename_i h1 ah aB bE c6;rw[if_neg h1,if_neg ah,if_neg aB,if_neg bE,if_neg c6] at h;exact absurd rfl h
def CX(x:Int):UInt8:=gC (1+(IntKind.u64.wrap x) % 255)
def y_(b:List UInt8)(at_:Int):Nat:=(oG at_ (b.length:Int)).toNat
def oL(b:List UInt8)(at_ x:Int):List UInt8:=match b[y_ b at_]? with
 | none=>b
 | some y=>b.set (y_ b at_) (y ^^^ CX x)
theorem agb(x:Int):CX x≠0:=by
 unfold CX;intro h;have h1:=u7 (1+(IntKind.u64.wrap x) % 255);rw[h] at h1;have bE:((0:UInt8).toNat:Int)=0:=rfl;omega
theorem agc(y:UInt8){z:UInt8}(h:z≠0):y ^^^ z≠y:=by
 intro e;apply h;have jd:=congrArg UInt8.toNat e;rw[UInt8.toNat_xor] at jd;have tP:y.toNat ^^^ z.toNat=y.toNat ^^^ 0:=(by rw[jd];simp);exact UInt8.toNat.inj (VM tP)
theorem M'{b:List UInt8}(h:1<=b.length)(at_:Int):y_ b at_<b.length:=by
 unfold y_ oG;have ah:=Int.emod_nonneg (IntKind.u64.wrap at_) (by omega:(b.length:Int)≠0);have aB:=Int.emod_lt_of_pos (IntKind.u64.wrap at_) (by omega:(0:Int)<(b.length:Int));omega
theorem Na{b:List UInt8}{at_ x:Int}{y:UInt8}(h:b[y_ b at_]?=some y):oL b at_ x=b.set (y_ b at_) (y ^^^ CX x):=by unfold oL;rw[h]
theorem agd(b:List UInt8)(at_ x:Int):(oL b at_ x).length=b.length:=by
 unfold oL;split
 . rfl
 . rw[List.length_set]
theorem age{b:List UInt8}(h:1<=b.length)(at_ x:Int):∃y,b[y_ b at_]?=some y/\oL b at_ x=b.set (y_ b at_) (y ^^^ CX x)/\y ^^^ CX x≠y:=by
 have:=M' h at_;exact⟨_,List.getElem?_eq_getElem this,Na (List.getElem?_eq_getElem this),agc _ (agb x)⟩
theorem VT{words:List aj}(h:e6 words=0):10<=(ly words).length:=by
 rw[<-CQ h,oa];omega
theorem agf{words:List aj}(h:e6 words=0)(at_ x:Int):iq (oL (ly words) at_ x)=([],9):=by
 have bj:=VT h;obtain⟨y,h1,ah,aB⟩:=age (b:=ly words) aa at_ x;rw[ah];rw[<-CQ h] at h1 ⊢;exact af7 h1 aB
end Go.ak
namespace Go.ak
open Go.aH
theorem Fh{b:List UInt8}{n:Nat}{a f a2:Int}{q:Bool}(aN:xJ n)(h:ed b n (a,q)=(f,(a2,false))):q=false/\0<=a/\a2=a+n/\a2<=b.length/\0<=f/\f<256 ^ n/\b.drop a.toNat=fk f n++b.drop a2.toNat:=by
 cases bX:mI b a n with
 | false=>rw[y5 bX] at h;simp at h
 | true =>
  rw[vb bX] at h;have hk:=bX;unfold mI at hk;have hk:=of_decide_eq_true hk;simp only[Prod.mk.injEq] at h;obtain⟨rfl,rfl,rfl⟩:=h
  have cI:j8 b a n=(kX ((b.drop a.toNat).take n):Int):=by
   unfold j8
   rw[if_pos bX,Int.toNat_natCast]
  have bj:((b.drop a.toNat).take n).length=n:=(by rw[List.length_take,List.length_drop];omega);have hp:=MF (l:=(b.drop a.toNat).take n);rw[bj] at hp;refine⟨rfl,by omega,rfl,by omega,by omega,by rw[cI];have ah:=Int.ofNat_lt.2 hp;rw[Int.natCast_pow] at ah;exact ah,?_⟩;rw[cI,MZ aN bj,show(a+(n:Int)).toNat=a.toNat+n from by omega,<-List.drop_drop,List.take_append_drop]
theorem agh{b:List UInt8}{a a2:Int}{q:Bool}{e:ca}(h:rT b (a,q)=(e,(a2,false))):q=false/\0<=a/\0<=a2/\y9 e/\b.drop a.toNat=l7 e++b.drop a2.toNat:=by
 unfold rT at h;simp only[Prod.mk.injEq] at h;generalize a':ed b 4 (a,q)=x at *;obtain⟨f,h9,eb⟩:=x;dsimp only at h;generalize c3:ed b 2 (h9,eb || decide (f>1114111))=y at *;obtain⟨t,a3,fx⟩:=y;dsimp only at h;obtain⟨rfl,h⟩:=h;simp only[Prod.mk.injEq] at h;obtain⟨rfl,rfl⟩:=h;obtain⟨bC,cy,dE,hg,jw,p9,pb⟩:=Fh (.inr (.inl rfl)) c3;obtain⟨rfl,CY⟩:=Bool.or_eq_false_iff.1 bC;obtain⟨rfl,dL,A4,Fi,Nb,agi,Nc⟩:=Fh (.inr (.inr rfl)) a';have bB:¬ f>1114111:=of_decide_eq_false CY;have hw:=wrap32 Nb aa;refine⟨rfl,dL,by omega,⟨by dsimp only;rw[hw];exact Nb,by dsimp only;rw[hw];omega,jw,by dsimp only;omega⟩,?_⟩;rw[Nc,pb];unfold l7;rw[hw,List.append_assoc]
theorem VU{b:List UInt8}:∀(n:Nat) {a a2:Int} {es:List ca},kr b n (a,false)=(es,(a2,false))->0<=a->es.length=n/\(∀e∈es,y9 e)/\0<=a2/\b.drop a.toNat=es.flatMap l7++b.drop a2.toNat
 | 0,a,a2,es,h,aw=>by
  unfold kr at h
  simp only[Prod.mk.injEq] at h
  obtain⟨rfl,rfl,_⟩:=h
  exact⟨rfl,by simp,aw,by simp⟩
 | n+1,a,a2,es,h,aw=>by
  unfold kr at h
  rw[if_neg dg] at h
  simp only[Prod.mk.injEq] at h
  generalize a':rT b (a,false)=x at *
  obtain⟨e,h9,eb⟩:=x
  dsimp only at h
  generalize c3:kr b n (h9,eb)=y at *
  obtain⟨agj,s2⟩:=y
  dsimp only at h
  obtain⟨rfl,rfl⟩:=h
  have dH:=VR n (s:=(h9,eb)) (by rw[c3])
  dsimp only at dH
  subst dH
  obtain⟨_,cy,dE,hg,jw⟩:=agh a'
  obtain⟨fU,dL,A4,Fi⟩:=VU n c3 dE
  refine⟨by rw[List.length_cons,fU],λnD he=>?_,A4,by rw[jw,Fi,List.flatMap_cons,List.append_assoc]⟩
  rcases List.mem_cons.1 he with rfl|he
  . exact hg
  . exact dL nD he
theorem agk{b:List UInt8}{a a2:Int}{q:Bool}{x:cw}(h:l8 b (a,q)=(x,(a2,false))):q=false/\0<=a/\0<=a2/\xK x/\b.drop a.toNat=kE x++b.drop a2.toNat:=by
 unfold l8 at h;simp only[Prod.mk.injEq] at h;generalize a':ed b 1 (a,q)=ay at *;obtain⟨f,h9,eb⟩:=ay;dsimp only at h;generalize c3:ed b 2 (h9,eb || decide (f>1))=y at *;obtain⟨c,a3,fx⟩:=y;dsimp only at h;generalize e3:kr b c.toNat (a3,fx)=z at *;obtain⟨es,asR⟩:=z;dsimp only at h;obtain⟨rfl,rfl⟩:=h;have dH:=VR _ (s:=(a3,fx)) (by rw[e3]);dsimp only at dH;subst dH;obtain⟨bC,cy,dE,hg,jw,p9,pb⟩:=Fh (.inr (.inl rfl)) c3;obtain⟨rfl,CY⟩:=Bool.or_eq_false_iff.1 bC;obtain⟨rfl,dL,A4,Fi,Nb,agi,Nc⟩:=Fh (.inl rfl) a';obtain⟨m1,m2,m3,m4⟩:=VU _ e3 aa;have bB:¬ f>1:=of_decide_eq_false CY;refine⟨rfl,dL,m3,⟨by dsimp only;omega,m2⟩,?_⟩;rw[Nc,pb,m4];unfold kE;dsimp only
 have fS:(if decide (f=1)=true then(1:Int) else 0)=f:=by
  by_cases h1:f=1
  . rw[if_pos (decide_eq_true h1)];exact h1.symm
  . rw[if_neg (by simpa using h1)];omega
 rw[fS,m1,show(c.toNat:Int)=c from by omega];simp only[List.append_assoc]
theorem VV{b:List UInt8}:∀(n:Nat) {a a2:Int} {N:List cw},lb b n (a,false)=(N,(a2,false))->0<=a->N.length=n/\(∀x∈N,xK x)/\0<=a2/\b.drop a.toNat=N.flatMap kE++b.drop a2.toNat
 | 0,a,a2,N,h,aw=>by
  unfold lb at h
  simp only[Prod.mk.injEq] at h
  obtain⟨rfl,rfl,_⟩:=h
  exact⟨rfl,by simp,aw,by simp⟩
 | n+1,a,a2,N,h,aw=>by
  unfold lb at h
  rw[if_neg dg] at h
  simp only[Prod.mk.injEq] at h
  generalize a':l8 b (a,false)=x at *
  obtain⟨e,h9,eb⟩:=x
  dsimp only at h
  generalize c3:lb b n (h9,eb)=y at *
  obtain⟨agj,s2⟩:=y
  dsimp only at h
  obtain⟨rfl,rfl⟩:=h
  have dH:=VS n (s:=(h9,eb)) (by rw[c3])
  dsimp only at dH
  subst dH
  obtain⟨_,cy,dE,hg,jw⟩:=agk a'
  obtain⟨fU,dL,A4,Fi⟩:=VV n c3 dE
  refine⟨by rw[List.length_cons,fU],λnD he=>?_,A4,by rw[jw,Fi,List.flatMap_cons,List.append_assoc]⟩
  rcases List.mem_cons.1 he with rfl|he
  . exact hg
  . exact dL nD he
theorem VW{b:List UInt8}(h:(iq b).2=0):∃N,b=kY N/\lz N≠[]/\(iq b).1=lz N:=by
 obtain⟨c,a0,N,h1,ah,aB,bE,c6,eZ,kB⟩:=af' h;refine⟨N,?_,eZ,kB⟩;have kt:(b.take (b.length-4)).length=b.length-4:=(by rw[List.length_take];omega);obtain⟨_,_,dE,hg,jw,p9,pb⟩:=Fh (.inr (.inl rfl)) bE;obtain⟨m1,m2,m3,m4⟩:=VV _ c6 aa;rw[List.drop_of_length_le (l:=b.take (b.length-4)) (i:=((b.length:Int)-4).toNat) (by rw[kt];omega),List.append_nil] at m4
 have agl:b.take (b.length-4)=hG N:=by
  rw[<-List.take_append_drop 4 (b.take (b.length-4)),List.take_take,show min 4 (b.length-4)=4 from by omega,aB]
  have agm:(b.take (b.length-4)).drop 4=fk c 2++(b.take (b.length-4)).drop a0.toNat:=pb
  rw[agm,m4]
  unfold hG
  rw[m1,show(c.toNat:Int)=c from by omega,List.append_assoc]
 have hd:(b.drop (b.length-4)).length=4:=(by rw[List.length_drop];omega);have fS:b=b.take (b.length-4)++b.drop (b.length-4):=(List.take_append_drop _ _).symm;have II:=M9 (b:=b.take (b.length-4)) hd;rw[<-fS,ah] at II;have jd:=MZ (.inr (.inr rfl):xJ 4) hd;rw[<-II] at jd;unfold kY xE;rw[<-agl,jd];exact fS
theorem agn{b:List UInt8}(h:(iq b).2=0):∃words,e6 words=0/\b=ly words/\(iq b).1=h7 words:=by
 obtain⟨N,h1,ah,aB⟩:=VW h;by_cases ao:xH N=true/\N.length≠0/\N.length<=721/\sw N=true/\(kk N).2=true/\e6 (kk N).1=0/\h7 (kk N).1=N
 . refine⟨(kk N).1,ao.2.2.2.2.2.1,?_,by rw[aB,Vj ao]⟩;rw[<-CQ ao.2.2.2.2.2.1,ao.2.2.2.2.2.2];exact h1
 . exact absurd (xI ao) ah
abbrev k0:=Bool×List (Int×Int)
def y'(b:List UInt8)(s:Int×Bool):(Int×Int)×(Int×Bool):=(((ed b 4 s).1,(ed b 2 (ed b 4 s).2).1),(ed b 2 (ed b 4 s).2).2)
def pE(b:List UInt8):Nat->Int×Bool->List (Int×Int)×(Int×Bool)
 | 0,s=>([],s)
 | n+1,s=>if s.2=true then([],s) else((y' b s).1::(pE b n (y' b s).2).1,(pE b n (y' b s).2).2)
def za(b:List UInt8)(s:Int×Bool):k0×(Int×Bool):=
 ((decide ((ed b 1 s).1=1),(pE b (ed b 2 (ed b 1 s).2).1.toNat (ed b 2 (ed b 1 s).2).2).1),(pE b (ed b 2 (ed b 1 s).2).1.toNat (ed b 2 (ed b 1 s).2).2).2)
def lf(b:List UInt8):Nat->Int×Bool->List k0×(Int×Bool)
 | 0,s=>([],s)
 | n+1,s=>if s.2=true then([],s) else((za b s).1::(lf b n (za b s).2).1,(lf b n (za b s).2).2)
def zb(e:ca):Int×Int:=(e.rune,e.to)
def wC(x:cw):k0:=(x.1,x.2.map zb)
theorem ago{b r:List UInt8}{a:Nat}{e:ca}(h:b.drop a=l7 e++r)(he:y9 e):y' b ((a:Int),false)=(zb e,(((a+6:Nat):Int),false)):=by
 unfold y9 at he;unfold l7 at h;rw[List.append_assoc] at h;have bC:=vc (q:=false) h (.inr (.inr rfl)) aa aa;have cy:=ud h;rw[ib] at cy;have dE:=vc (q:=false) cy (.inr (.inl rfl)) aa aa;unfold y' zb;rw[bC];dsimp only;rw[dE]
theorem VX{b:List UInt8}:∀(es:List ca) (a:Nat) (r:List UInt8),b.drop a=es.flatMap l7++r->(∀e∈es,y9 e)->pE b es.length ((a:Int),false)=(es.map zb,(((a+6*es.length:Nat):Int),false))
 | [],a,r,h,_=>by simp[pE]
 | e::es,a,r,h,ag=>by
  rw[List.flatMap_cons,List.append_assoc] at h
  have bC:=ago h (ag e dg)
  have cy:=ud h
  rw[M0] at cy
  have dE:=VX es (a+6) r cy (λe h=>ag e (by simp[h]))
  rw[List.length_cons]
  conv=>lhs;unfold pE
  rw[if_neg dg,bC]
  simp only[dE,List.map_cons]
  rw[show a+6+6*es.length=a+6*(es.length+1) from by omega]
theorem agp{b r:List UInt8}{a:Nat}{x:cw}(h:b.drop a=kE x++r)(ag:xK x):za b ((a:Int),false)=(wC x,(((a+ue x:Nat):Int),false)):=by
 unfold xK at ag;unfold kE at h;rw[List.append_assoc,List.append_assoc] at h;have bB:0<=(if x.1=true then(1:Int) else 0)/\(if x.1=true then(1:Int) else 0)<256:=(by split<;>omega);have bC:=vc (q:=false) h (.inl rfl) bB.1 (by have:=bB.2;omega);have cy:=ud h;rw[ib] at cy;have dE:=vc (q:=false) cy (.inr (.inl rfl)) aa (by have:=ag.1;omega);have hg:=ud cy;rw[ib] at hg;have jw:=VX x.2 _ r hg ag.2;unfold za wC ue;rw[bC];dsimp only;rw[dE];dsimp only;rw[Int.toNat_natCast,jw];dsimp only;have fS:decide ((if x.1=true then(1:Int) else 0)=1)=x.1:=(by cases x.1<;>rfl);rw[fS,show a+1+2+6*x.2.length=a+(3+6*x.2.length) from by omega]
theorem VY{b:List UInt8}:∀(N:List cw) (a:Nat) (r:List UInt8),b.drop a=N.flatMap kE++r->(∀x∈N,xK x)->lf b N.length ((a:Int),false)=(N.map wC,(((a+sx N:Nat):Int),false))
 | [],a,r,h,_=>by simp[lf,sx]
 | x::N,a,r,h,ag=>by
  rw[List.flatMap_cons,List.append_assoc] at h
  have bC:=agp h (ag x dg)
  have cy:=ud h
  rw[M1] at cy
  have dE:=VY N (a+ue x) r cy (λe h=>ag e (by simp[h]))
  rw[List.length_cons]
  conv=>lhs;unfold lf
  rw[if_neg dg,bC]
  simp only[dE,List.map_cons]
  rw[show a+ue x+sx N=a+sx (x::N) from by unfold sx;simp only[List.map_cons,List.sum_cons];omega]
def pd(g:List aj->Int×Int->List aj×Bool):List aj->List (Int×Int)->List aj×Bool
 | out,[]=>(out,true)
 | out,e::es=>if e.1>1114111 then(out,false) else if (g out e).2=false\/(g out e).1.length=out.length then((g out e).1,false) else pd g (g out e).1 es
def ig(N:List k0):Nat->Int->Int->aj->List aj->List aj×Bool
 | 0,_,_,_,out=>(out,false)
 | f+1,n,d,a,out=>if n<0\/n>=N.length\/d>12\/out.length>60 then(out,false) else match N[n.toNat]? with
  | none=>(out,false)
  | some x=>pd (λout e=>ig N f e.2 (d+1) (a++fB e.1) out) (if x.1=true then out++[a] else out) x.2
theorem VZ{g:List aj->Int×Int->List aj×Bool}(h:∀out e,out.length<=61->(g out e).1.length<=61):∀(es:List (Int×Int)) (out:List aj),out.length<=61->(pd g out es).1.length<=61
 | [],out,eh=>eh
 | e::es,out,eh=>by
  unfold pd
  split
  . exact eh
  . split
    . exact h out e eh
    . exact VZ h es _ (h out e eh)
theorem IJ(N:List k0):∀(f:Nat) (n d:Int) (a:aj) (out:List aj),out.length<=61->(ig N f n d a out).1.length<=61
 | 0,_,_,_,out,h=>h
 | f+1,n,d,a,out,h=>by
  unfold ig
  split
  . exact h
  . rename_i aN
    split
    . exact h
    . refine VZ (λout e h=>IJ N f _ _ _ out h) _ _ ?_
      split
      . rw[List.length_append];simp only[List.length_cons,List.length_nil]
        have:¬ out.length>60:=λk=>aN (.inr (.inr (.inr k)))
        omega
      . exact h
theorem V0{g:List aj->Int×Int->List aj×Bool}(h:∀out e,(∀t∈out,t.length<=1000)->∀t∈(g out e).1,t.length<=1000):∀(es:List (Int×Int)) (out:List aj),(∀t∈out,t.length<=1000)->∀t∈(pd g out es).1,t.length<=1000
 | [],out,eh=>eh
 | e::es,out,eh=>by
  unfold pd
  split
  . exact eh
  . split
    . exact h out e eh
    . exact V0 h es _ (h out e eh)
theorem V1(N:List k0):∀(f:Nat) (n d:Int) (a:aj) (out:List aj),(a.length:Int)<=4*d->(∀t∈out,t.length<=1000)->∀t∈(ig N f n d a out).1,t.length<=1000
 | 0,_,_,_,out,_,h=>h
 | f+1,n,d,a,out,aw,h=>by
  unfold ig
  split
  . exact h
  . rename_i aN
    split
    . exact h
    . refine V0 (λout e h=>V1 N f _ _ _ out (by have:=y7 e.1;simp only[List.length_append];omega) h) _ _ ?_
      have:¬ d>12:=λk=>aN (.inr (.inr (.inl k)))
      split
      . intro t a8
        rcases List.mem_append.1 a8 with a8|a8
        . exact h t a8
        . simp only[List.mem_singleton] at a8;subst a8;omega
      . exact h
section
variable {s:c5}
theorem agq{a:aj}{d:Int}{f:Nat}{N:List k0}(M5:∀(n:Nat) (a:aj) (l:List aj) (y:List aj×List ca),s[n]?=some y->d+1+mq y.1<=12->l.length+y.1.length<=60->ig N f (n:Int) (d+1) a l=(l++y.1.map (a++·),true)):
 ∀{gs:List (Nat×List aj)} {es:List ca},cZ (λg e=>e.rune=(g.1:Int)/\∃(j:Nat) (es:List ca),e.to=(j:Int)/\s[j]?=some (g.2,es)) gs es->(∀g∈gs,kO g.1/\g.2≠[]/\d+1+mq g.2<=12)->∀l:List aj,l.length+(gs.flatMap λg=>g.2.map (ei g.1++·)).length<=60 ->
  pd (λout e=>ig N f e.2 (d+1) (a++fB e.1) out) l (es.map zb)=(l++(gs.flatMap λg=>g.2.map (ei g.1++·)).map (a++·),true):=by
 intro gs es h
 induction h with
 | nil=>intro _ l _;simp[pd]
 | @cons g e gs es yH a' f_ =>
  intro aU l bj;obtain⟨h1,j,rM,ah,aB⟩:=yH;obtain⟨bC,dE,cy⟩:=aU g dg;have agr:=bC;unfold kO at agr;rw[List.flatMap_cons,List.length_append,List.length_map] at bj
  have ags:ig N f (zb e).2 (d+1) (a++fB (zb e).1) l=(l++g.2.map ((a++ei g.1)++·),true):=by
   show ig N f e.to (d+1) (a++fB e.rune) l=_
   rw[ah,h1,yR bC]
   exact M5 j _ l (g.2,rM) aB cy (by simp only;omega)
  have CZ:0<g.2.length:=List.length_pos_iff.2 dE;rw[List.map_cons];unfold pd;rw[if_neg (by show ¬ e.rune>_;omega),ags,if_neg (by rintro(h|h);cases h;simp only[List.length_append,List.length_map] at h;omega)];rw[f_ (λfv s_=>aU fv (by simp[s_])) _ (by simp only[List.length_append,List.length_map];omega)];rw[List.flatMap_cons,List.map_append,List.map_map,List.append_assoc];congr 3
  apply List.map_congr_left;intro t _;simp
theorem agt(l_:∀y∈s,o_ s y/\gu y.1):∀(f n:Nat) (a:aj) (d:Int) (l:List aj) (y:List aj×List ca),s[n]?=some y->0<=d->d+mq y.1<=12->13<=d+f->l.length+y.1.length<=60->ig ((fT s).map wC) (f+1) (n:Int) d a l=(l++y.1.map (a++·),true):=by
 intro f
 induction f with
 | zero=>intro n a d l y aN bK h1 ah _;omega
 | succ f b' =>
  intro n a d l y aN bK h1 ah bj;obtain⟨ao,aU⟩:=l_ y (List.mem_of_getElem? aN);have hL:=(List.getElem?_eq_some_iff.1 aN).1;have rW:((fT s).map wC).length=s.length:=(by rw[List.length_map,u6]);have fV:=H0 (x:=y) aU;have ag:((fT s).map wC)[(n:Int).toNat]?=some (wC (jY y.1,y.2)):=by rw[Int.toNat_natCast,List.getElem?_map,IF aN];rfl
  conv=>lhs;unfold ig
  rw[if_neg (by rw[rW];rintro(h|h|h|h)<;>omega),ag];rw[show wC (jY y.1,y.2)=(jY y.1,y.2.map zb) from rfl];dsimp only;have hlen:=congrArg List.length fV;rw[List.length_append] at hlen;have key:=λCW tN=>agq (s:=s) (a:=a) (d:=d) (f:=f+1) (N:=(fT s).map wC) (λn a l y aN hd bj=>b' n a (d+1) l y aN aa hd aa bj) ao (λg iQ=>⟨(CU aU iQ).1,(CU aU iQ).2.1,by have:=Ff aU iQ;omega⟩) CW tN
  cases bB:jY y.1 with
  | true =>
   rw[bB,if_pos rfl] at fV;rw[bB,if_pos rfl] at hlen;rw[if_pos rfl,key _ (by simp only[List.length_append,List.length_cons,List.length_nil] at hlen ⊢;omega)]
   conv=>rhs;rw[fV]
   simp
  | false =>
   rw[bB,if_neg b2] at fV;rw[bB,if_neg b2] at hlen;rw[if_neg b2,key _ (by simp only[List.length_nil] at hlen ⊢;omega)]
   conv=>rhs;rw[fV]
   simp
end
def ni(b:List UInt8):Bool:=decide (¬ b.length<4/\j8 b ((b.length:Int)-4) 4=(kD (b.take (b.length-4)):Int))
def h2(b:List UInt8):List aj×Int:=
 if ni b=false then([],9) else
 if (lf b (ed b 2 (4,false)).1.toNat (ed b 2 (4,false)).2).2.2=true then([],8) else
 if (ig (lf b (ed b 2 (4,false)).1.toNat (ed b 2 (4,false)).2).1 14 0 0 [] []).2=false then([],8) else
 if ¬ e6 (ig (lf b (ed b 2 (4,false)).1.toNat (ed b 2 (4,false)).2).1 14 0 0 [] []).1=0\/¬ ly (ig (lf b (ed b 2 (4,false)).1.toNat (ed b 2 (4,false)).2).1 14 0 0 [] []).1=b then([],8) else
 ((ig (lf b (ed b 2 (4,false)).1.toNat (ed b 2 (4,false)).2).1 14 0 0 [] []).1,0)
theorem V2{b:List UInt8}(h:ni b=false):h2 b=([],9):=by unfold h2;rw[if_pos h]
section
variable {b:List UInt8} {c a0 a:Int} {q0 q ok:Bool} {N:List k0} {l:List aj}
theorem Nd(h:ni b=true)(h1:(c,(a0,q0))=ed b 2 (4,false))(ah:lf b c.toNat (a0,q0)=(N,(a,q)))(aB:q=true):h2 b=([],8):=by
 unfold h2;rw[if_neg (by simp[h]),<-h1];simp only[ah];rw[if_pos aB]
theorem V3(h:ni b=true)(h1:(c,(a0,q0))=ed b 2 (4,false))(ah:lf b c.toNat (a0,q0)=(N,(a,q)))(aB:q=false)(bE:ig N 14 0 0 [] []=(l,ok))(c6:ok=false):h2 b=([],8):=by
 unfold h2;rw[if_neg (by simp[h]),<-h1];simp only[ah];rw[if_neg (by simp[aB]),if_pos (by rw[bE];exact c6)]
theorem Nf(h:ni b=true)(h1:(c,(a0,q0))=ed b 2 (4,false))(ah:lf b c.toNat (a0,q0)=(N,(a,q)))(aB:q=false)(bE:ig N 14 0 0 [] []=(l,ok))(c6:ok=true)(eZ:¬ e6 l=0\/¬ ly l=b):h2 b=([],8):=by
 unfold h2;rw[if_neg (by simp[h]),<-h1];simp only[ah,bE];rw[if_neg (by simp[aB]),if_neg (by simp[c6]),if_pos eZ]
theorem Ng(h:ni b=true)(h1:(c,(a0,q0))=ed b 2 (4,false))(ah:lf b c.toNat (a0,q0)=(N,(a,q)))(aB:q=false)(bE:ig N 14 0 0 [] []=(l,ok))(c6:ok=true)(eZ:¬ (¬ e6 l=0\/¬ ly l=b)):h2 b=(l,0):=by
 unfold h2;rw[if_neg (by simp[h]),<-h1];simp only[ah,bE];rw[if_neg (by simp[aB]),if_neg (by simp[c6]),if_neg eZ]
end
theorem V4(b:List UInt8):h2 b=([],9)/\ni b=false\/(h2 b=([],8)/\ni b=true)\/(ni b=true/\(h2 b).2=0/\e6 (h2 b).1=0/\ly (h2 b).1=b):=by
 cases eh:ni b with
 | false=>exact .inl ⟨V2 eh,rfl⟩
 | true =>
  right;obtain⟨⟨c,a0,q0⟩,h1⟩:∃x,x=ed b 2 (4,false):=⟨_,rfl⟩;obtain⟨⟨N,a,q⟩,ah⟩:∃x,lf b c.toNat (a0,q0)=x:=⟨_,rfl⟩
  cases aB:q with
  | true=>exact .inl ⟨Nd eh h1 ah aB,rfl⟩
  | false =>
   obtain⟨⟨l,ok⟩,bE⟩:∃x,ig N 14 0 0 [] []=x:=⟨_,rfl⟩
   cases c6:ok with
   | false=>exact .inl ⟨V3 eh h1 ah aB bE c6,rfl⟩
   | true =>
    by_cases eZ:¬ e6 l=0\/¬ ly l=b
    . exact .inl ⟨Nf eh h1 ah aB bE c6 eZ,rfl⟩
    . rw[Ng eh h1 ah aB bE c6 eZ];exact .inr ⟨rfl,rfl,Classical.byContradiction λk=>eZ (.inl k),Classical.byContradiction λk=>eZ (.inr k)⟩
theorem Nh{b:List UInt8}(h:ni b=false):iq b=([],9):=by
 unfold ni at h;have h:=of_decide_eq_false h;by_cases h1:b.length<4
 . exact ID h1
 . exact CT h1 λk=>h ⟨h1,k⟩
theorem V5{b:List UInt8}(h:ni b=true):(iq b).2=0\/iq b=([],8):=by
 unfold ni at h;obtain⟨h1,ah⟩:=of_decide_eq_true h;unfold iq;rw[if_neg h1,if_neg (λk=>k ah)];split
 . exact .inr rfl
 split
 . exact .inr rfl
 split
 . exact .inr rfl
 . exact .inl rfl
theorem V6{words:List aj}(h:e6 words=0):h2 (ly words)=(words,0):=by
 have AU:=VL h;have bj:=(CP h).2;have V7:=M6 h
 have agu:ni (ly words)=true:=by
  cases eh:ni (ly words) with
  | true=>rfl
  | false=>rw[Nh eh] at V7;simp at V7
 have he:ly words=hG (h7 words)++fk (kD (hG (h7 words))) 4:=(by rw[<-CQ h];rfl);have Fc:(ly words).drop 4=fk (h7 words).length 2++((h7 words).flatMap kE++fk (kD (hG (h7 words))) 4):=(by rw[he];unfold hG;simp);have bE:=vc (q:=false) Fc (.inr (.inl rfl)) aa aa;have Fe:=ud Fc;rw[ib] at Fe;have c6:=VY _ 6 _ Fe AU
 have hw:ig ((h7 words).map wC) 14 0 0 [] []=(words,true):=by
  by_cases hw:words=[]
  . subst hw
    rw[Ia rfl];decide
  . have jF:=ta h
    have bX:=Cx jF.2 jF.1 hw
    have ho:=t' h
    unfold o' at ho
    rw[if_neg hw] at ho
    obtain⟨ti,bK⟩:=bX.root
    have af2:=VB jF.2
    have:=agt (s:=s9 words) (λy aD=>⟨(bX.node y aD).wi,(bX.node y aD).fO⟩) 13 0 [] 0 [] (words,ti) bK aa (by simp only;omega) aa (by have:=(wh h).1;simp only[List.length_nil];omega)
    rw[ho]
    simpa using this
 exact Ng agu bE.symm (by rw[Int.toNat_natCast];exact c6) rfl hw rfl (by rintro(k|k);exact k h;exact k rfl)
theorem C0(b:List UInt8):(iq b).2=(h2 b).2/\((iq b).2=0->e6 (h2 b).1=0/\(iq b).1=h7 (h2 b).1):=by
 rcases V4 b with ⟨h1,ah⟩|⟨h1,ah⟩|⟨h1,ah,aB,bE⟩
 . rw[Nh ah,h1];exact⟨rfl,λh=>by cases h⟩
 . rcases V5 ah with h|h
   . obtain⟨words,bC,cy,dE⟩:=agn h;rw[cy,V6 bC] at h1;simp at h1
   . rw[h,h1];exact⟨rfl,λh=>by cases h⟩
 . have k:=M6 aB;rw[bE] at k;rw[k,ah];exact⟨rfl,λ_=>⟨aB,rfl⟩⟩
end Go.ak
namespace Go.ak
open Go.aH
theorem agv{l:List aj}(aT:o8 l)(hw:∀w∈l,word w=true)(bj:l.length<=60):e6 l=0:=by
 unfold e6;rw[if_neg aa,if_pos (List.all_eq_true.2 hw),if_pos (Tr aT)]
end Go.ak
namespace Go.ak
open Go.aH
theorem agw{cuts:List Key}{words:List aj}(h:e6 words=0)(shard:Int):e6 (rL cuts words shard)=0:=by
 obtain⟨h1,ah,aB⟩:=wh h;refine agv (List.Pairwise.filter _ aB) (λw hw=>ah w (List.mem_filter.1 hw).1) ?_;have:=List.length_filter_le (tS cuts shard) words;unfold rL;omega
theorem agx{c:cD}(h:may c=true):e6 c.words=0:=by
 unfold may at h;simp only[Bool.and_eq_true,beq_iff_eq] at h;exact h.1.1
theorem agy{c:cD}(s:Int):(tT c s).length<=c.words.length:=List.length_filter_le _ _
theorem Ni{c:cD}(h:may c=true)(s:Int):e6 (tT c s)=0:=agw (agx h) s
theorem V8{c:cD}(h:may c=true){s:Int}(bK:0<=s)(h1:s<(je c:Int)):gW c s=ly (tT c s)/\wA c s=0:=by
 obtain⟨ah,aB⟩:=E_ (c:=c) bK h1;exact⟨ah.symm,aB.symm.trans (Ni h s)⟩
end Go.ak
namespace Go.aH
open Go
section
variable {R kj:Nat->Prop} {w:World}
theorem Nj{α:Type}:∀(A C B:List α),(List.range' C.length A.length).filterMap (λi=>(C++A++B)[i]?)=A
 | [],C,B=>rfl
 | a::A,C,B=>by
  have:=Nj A (C++[a]) B
  rw[List.length_cons,List.range'_succ,List.filterMap_cons]
  have h1:(C++a::A++B)[C.length]?=some a:=by simp
  rw[h1]
  simp only
  rw[List.length_append,List.length_cons,List.length_nil] at this
  rw[show C++a::A++B=C++[a]++A++B from by simp,this]
theorem Sep.A5{A B:List (dk R)}(h:Sep (A++B) kj w):Sep (B++A) kj w:=by
 have:=h.yY (List.range' A.length B.length++List.range' 0 A.length) (by
  rw[List.all_eq_true]
  intro i ar
  rw[List.mem_append,List.mem_range'_1,List.mem_range'_1] at ar
  rw[List.length_append]
  exact decide_eq_true aa) (by
  rw[List.nodup_append]
  refine⟨List.nodup_range',List.nodup_range',λa aw b ab=>?_⟩
  rw[List.mem_range'_1] at aw ab
  omega)
 rw[List.filterMap_append] at this;have h1:=Nj B A [];have ah:=Nj A [] B;rw[List.append_nil] at h1;rw[List.length_nil,List.nil_append] at ah;rw[h1,ah] at this;exact this
theorem Sep.v8{A B:List (dk R)}{x:dk R}(h:Sep (A++x::B) kj w):Sep [bk A,x,bk B] kj w:=by
 have h1:Sep ((A++[x])++B) kj w:=(by simpa using h);have ah:Sep (A++[x,bk B]) kj w:=(by simpa using h1.close);have aB:=(ah.A5).close (L1:=[x,bk B]) (L2:=A);exact aB.yY [2,0,1] rfl b2
theorem Sep.agz{A B:List (dk R)}{x:dk R}(h:Sep [bk A,x,bk B] kj w):Sep (A++x::B) kj w:=by
 have h1:Sep ([x,bk B]++[bk A]) kj w:=h.yY [1,2,0] rfl b2;have ah:=(h1.open).A5;have aB:Sep ((A++[x])++[bk B]) kj w:=(by simpa using ah);have bE:=aB.open;simpa using bE
def nO(b:Nat):Value:=ptr b 0
structure ku where
 shard:Int
 ptr:Nat
 fO:List UInt8
 now:List UInt8
def hv(eI u8:TypeId)(x:ku):dk R:=nK λvs:Value×Value=>bk [ax x.ptr [vs.1,vs.2] eI,aS eA u8 1 vs.1 x.fO,aS eA u8 1 vs.2 x.now]
theorem agA{eI u8:TypeId}{D:List ku}{k:Nat}{x:ku}(ag:D[k]?=some x):∀F:Nat->Prop,(bk (R:=R) (D.map (hv eI u8))).p F w->(bk (R:=R) [bk ((D.take k).map (hv eI u8)),hv eI u8 x,bk ((D.drop (k+1)).map (hv eI u8))]).p F w:=by
 intro F h
 have e:D=D.take k++x::D.drop (k+1):=by
  have:=(List.getElem?_eq_some_iff.1 ag).2
  rw[<-this];simp
 rw[e] at h;rw[List.map_append,List.map_cons] at h;exact Sep.v8 h
theorem agB{eI u8:TypeId}{D:List ku}{k:Nat}{x y:ku}(ag:D[k]?=some x):∀F:Nat->Prop,(bk (R:=R) [bk ((D.take k).map (hv eI u8)),hv eI u8 y,bk ((D.drop (k+1)).map (hv eI u8))]).p F w->(bk (R:=R) ((D.set k y).map (hv eI u8))).p F w:=by
 intro F h;have hk:=(List.getElem?_eq_some_iff.1 ag).1;have e:D.set k y=D.take k++y::D.drop (k+1):=(by rw[List.set_eq_take_append_cons_drop,if_pos hk]);rw[e,List.map_append,List.map_cons];exact Sep.agz h
def agC(jh eI u8:TypeId)(dh:Nat)(life:Int)(D:List ku):dk R:=nK λe8:Nat=>bk [ax dh [.map (some e8),.int .i64 life] jh,lx fC nO e8 (D.map λx=>(x.shard,x.ptr)),bk (D.map (hv eI u8))]
end
end Go.aH
namespace Go.ak
open Go.aH
abbrev cX:=Int×List UInt8×List UInt8
def j0(D:List cX)(s:Int):Option cX:=D.find? λx=>decide (x.1=s)
def pF(D:List cX)(s:Int):Int:=match j0 D s with|none=>4|some _=>0
def iR(D:List cX)(s:Int):List UInt8:=match j0 D s with|none=>[]|some x=>x.2.2
def xL(D:List cX)(s:Int):Bool:=match j0 D s with|none=>false|some x=>decide (x.2.2≠x.2.1)
def om(D:List cX)(s:Int)(f:List UInt8->List UInt8):List cX:=D.map λx=>if x.1=s then(x.1,x.2.1,f x.2.1) else x
def xM(D:List cX)(s at_ x:Int):List cX:=om D s λb=>oL b at_ x
def xN(D:List cX)(s:Int):List cX:=om D s id
def pe(D:List cX):Prop:=(D.map (·.1)).Nodup/\∀x∈D,1<=x.2.1.length/\x.2.1.length<=4000000/\x.2.2.length=x.2.1.length
theorem agD(D:List cX)(s:Int)(f:List UInt8->List UInt8):(om D s f).map (·.1)=D.map (·.1):=by
 unfold om;rw[List.map_map];apply List.map_congr_left;intro x _;simp only[Function.comp];split<;>rfl
theorem pe.put{D:List cX}(h:pe D)(s:Int){f:List UInt8->List UInt8}(bB:∀b,(f b).length=b.length):pe (om D s f):=by
 refine⟨by rw[agD];exact h.1,λx ag=>?_⟩;unfold om at ag;obtain⟨y,aD,rfl⟩:=List.mem_map.1 ag;have:=h.2 y aD;split
 . exact⟨this.1,this.2.1,bB _⟩
 . exact this
theorem V9(D:List cX)(s t:Int)(f:List UInt8->List UInt8):j0 (om D s f) t=(j0 D t).map λx=>if x.1=s then(x.1,x.2.1,f x.2.1) else x:=by
 unfold j0 om;rw[List.find?_map];congr 2
 funext x;simp only[Function.comp];split<;>rfl
theorem A6{D:List cX}{s:Int}{x:cX}(h:j0 D s=some x):x.1=s/\x∈D:=by
 unfold j0 at h;have ah:=List.find?_some h;exact⟨of_decide_eq_true ah,List.mem_of_find?_eq_some h⟩
theorem agE{D:List cX}{s:Int}{x:cX}(h:j0 D s=some x):∃k,D[k]?=some x/\x.1=s/\∀(j:Nat) (y:cX),j<k->D[j]?=some y->y.1≠s:=by
 unfold j0 at h
 induction D with
 | nil=>cases h
 | cons y D b' =>
  rw[List.find?_cons] at h;by_cases aD:y.1=s
  . rw[decide_eq_true aD] at h;simp only[Option.some.injEq] at h;subst h;exact⟨0,rfl,aD,λj y bo=>absurd bo (Nat.not_lt_zero _)⟩
  . rw[decide_eq_false aD] at h;obtain⟨k,h1,ah,aB⟩:=b' h;refine⟨k+1,h1,ah,λj z bo cO=>?_⟩
    cases j with
    | zero=>simp only[List.getElem?_cons_zero,Option.some.injEq] at cO;subst cO;exact aD
    | succ j=>exact aB j z aa (by simpa using cO)
theorem Nk{D:List cX}{s:Int}{x:cX}{k:Nat}{f:List UInt8->List UInt8}(aN:(D.map (·.1)).Nodup)(ag:D[k]?=some x)(aT:x.1=s):om D s f=D.set k (x.1,x.2.1,f x.2.1):=by
 unfold om;apply List.ext_getElem?;intro j;rw[List.getElem?_map,List.getElem?_set];have hk:=(List.getElem?_eq_some_iff.1 ag).1;by_cases bo:k=j
 . subst bo;rw[ag,if_pos rfl,if_pos hk];simp[aT]
 . rw[if_neg bo]
   cases aD:D[j]? with
   | none=>rfl
   | some y =>
    simp only[Option.map_some,Option.some.injEq];rw[if_neg];intro e;have h1:(D.map (·.1))[k]?=some s:=(by rw[List.getElem?_map,ag,<-aT];rfl);have ah:(D.map (·.1))[j]?=some s:=(by rw[List.getElem?_map,aD,<-e];rfl);exact bo ((List.getElem?_inj (by rw[List.length_map];exact hk) aN).1 (h1.trans ah.symm))
theorem agF{D:List cX}{s:Int}{f:List UInt8->List UInt8}(h:j0 D s=none):om D s f=D:=by
 unfold om
 conv=>rhs;rw[<-List.map_id D]
 apply List.map_congr_left;intro x ag;unfold j0 at h;have:=List.find?_eq_none.1 h x ag;rw[if_neg (by simpa using this)];rfl
def nP(x:ku):cX:=(x.shard,x.fO,x.now)
theorem Nl(D:List ku)(s:Int):gv (D.map λx=>(x.shard,x.ptr)) s=(D.find? λx=>decide (x.shard=s)).map (·.ptr):=by
 unfold gv;rw[List.find?_map,Option.map_map];rfl
theorem V_(D:List ku)(s:Int):j0 (D.map nP) s=(D.find? λx=>decide (x.shard=s)).map nP:=by
 unfold j0;rw[List.find?_map];rfl
theorem agG{D:List ku}{s:Int}{x:cX}(h:j0 (D.map nP) s=some x):∃(k:Nat) (y:ku),D[k]?=some y/\nP y=x/\y.shard=s/\gv (D.map λx=>(x.shard,x.ptr)) s=some y.ptr:=by
 rw[V_] at h
 cases bB:D.find? λx=>decide (x.shard=s) with
 | none=>rw[bB] at h;cases h
 | some y =>
  rw[bB] at h;obtain⟨k,hk⟩:=List.mem_iff_getElem?.1 (List.mem_of_find?_eq_some bB);have ah:=List.find?_some bB;exact⟨k,y,hk,by simpa using h,of_decide_eq_true ah,by rw[Nl,bB];rfl⟩
theorem agH{D:List ku}{s:Int}(h:j0 (D.map nP) s=none):gv (D.map λx=>(x.shard,x.ptr)) s=none:=by
 rw[V_] at h
 cases bB:D.find? λx=>decide (x.shard=s) with
 | none=>rw[Nl,bB];rfl
 | some y=>rw[bB] at h;cases h
theorem agI{D:List ku}{k:Nat}{y:ku}{s:Int}{f:List UInt8->List UInt8}(aN:pe (D.map nP))(hk:D[k]?=some y)(aT:y.shard=s):(D.set k { y with now:=f y.fO }).map nP=om (D.map nP) s f:=by
 rw[Nk (x:=nP y) aN.1 (by rw[List.getElem?_map,hk];rfl) aT,List.map_set];rfl
theorem agJ{D:List ku}{k:Nat}{y:ku}{b:List UInt8}(hk:D[k]?=some y):((D.set k { y with now:=b }).map λx=>(x.shard,x.ptr))=D.map λx=>(x.shard,x.ptr):=by
 rw[List.map_set];apply List.ext_getElem?;intro j;rw[List.getElem?_set];split
 . rename_i h;subst h;split
   . rw[List.getElem?_map,hk];rfl
   . rw[List.getElem?_eq_none aa]
 . rfl
def rX(c:cD)(w:Int):Bool:=may c && (decide (1<=w) && decide (w<=c.workers))
theorem IK{c:cD}{w:Int}(h1:may c=true)(ah:1<=w)(aB:w<=c.workers):rX c w=true:=by unfold rX;rw[h1,decide_eq_true ah,decide_eq_true aB];rfl
theorem C1{c:cD}{w:Int}(h:may c=false\/w<1\/c.workers<w):rX c w=false:=by
 unfold rX;rcases h with h|h|h
 . rw[h];rfl
 . rw[decide_eq_false (by omega:¬ 1<=w)];simp
 . rw[decide_eq_false (by omega:¬ w<=c.workers)];simp
theorem Nn{c:cD}{w:Int}(h:rX c w=true):may c=true/\1<=w/\w<=c.workers:=by
 unfold rX at h;simp only[Bool.and_eq_true,decide_eq_true_eq] at h;exact⟨h.1,h.2.1,h.2.2⟩
def nj(c:cD)(w:Int):List cX:=(cn c w).map λs=>(s,gW c s,gW c s)
def q_(c:cD)(s:Int):cX:=(s,gW c s,gW c s)
theorem IL(c:cD)(w:Int):nj c w=(cn c w).map (q_ c):=rfl
theorem IM(c:cD)(w:Int):(cn c w).Nodup:=by
 unfold cn;refine List.Pairwise.map _ (λa b h=>?_) ((List.nodup_range (n:=je c)).filter _);omega
theorem V'{c:cD}{l:List Int}{k:Nat}{x:Int}(ag:l[k]?=some x):(l.take k).map (q_ c)++[(x,gW c x,gW c x)]=(l.take (k+1)).map (q_ c):=by
 rw[List.take_add_one,ag,List.map_append];rfl
theorem agK{c:cD}{l:List Int}(aN:l.Nodup){k:Nat}{x:Int}(ag:l[k]?=some x){D:List ku}(j1:D.map nP=(l.take k).map (q_ c)):∀y∈D,y.shard≠x:=by
 intro y aD e;have h1:nP y∈(l.take k).map (q_ c):=j1▸List.mem_map_of_mem aD;obtain⟨z,cO,eg⟩:=List.mem_map.1 h1;have IN:z=x:=(congrArg Prod.fst eg).trans e;obtain⟨j,bo⟩:=List.mem_iff_getElem?.1 cO;rw[List.getElem?_take] at bo;split at bo
 . rename_i n_;rw[IN] at bo;have:=(List.getElem?_inj (List.getElem?_eq_some_iff.1 bo).1 aN).1 (bo.trans ag.symm);omega
 . cases bo
theorem C2{c:cD}{w s:Int}(h:s∈cn c w):0<=s/\s<(je c:Int):=by
 unfold cn at h;obtain⟨k,hk,rfl⟩:=List.mem_map.1 h;have:=List.mem_range.1 (List.mem_filter.1 hk).1;omega
theorem IP{c:cD}(h:may c=true)(w:Int):pe (nj c w):=by
 refine⟨?_,λx ag=>?_⟩
 . have:(nj c w).map (·.1)=cn c w:=by
    rw[IL,List.map_map]
    conv=>rhs;rw[<-List.map_id (cn c w)]
    rfl
   rw[this];exact IM c w
 . rw[IL] at ag;obtain⟨s,aT,rfl⟩:=List.mem_map.1 ag;obtain⟨h1,ah⟩:=C2 aT;obtain⟨aB,_⟩:=V8 h h1 ah;have bE:=VT (Ni h s);have c6:=U6 c s;unfold q_;dsimp only;rw[aB] at c6 ⊢;exact⟨by omega,by omega,rfl⟩
theorem Wa{c:cD}{w s:Int}(h:s∈cn c w):j0 (nj c w) s=some (s,gW c s,gW c s):=by
 rw[IL];unfold j0;rw[List.find?_map]
 have:(cn c w).find? ((λx:cX=>decide (x.1=s)) ∘ q_ c)=some s:=by
  cases bB:(cn c w).find? ((λx:cX=>decide (x.1=s)) ∘ q_ c) with
  | none=>exact absurd (decide_eq_true rfl) (List.find?_eq_none.1 bB s h)
  | some y =>
   have ah:=List.find?_some bB
   have aB:y=s:=of_decide_eq_true ah
   rw[aB]
 rw[this];rfl
theorem agL{c:cD}{w s:Int}(h:s∉cn c w):j0 (nj c w) s=none:=by
 cases aU:j0 (nj c w) s with
 | none=>rfl
 | some x =>
  obtain⟨h1,ah⟩:=A6 aU;rw[IL] at ah;obtain⟨z,cO,rfl⟩:=List.mem_map.1 ah;exact absurd (h1▸cO:s∈cn c w) h
theorem Wb{D:List cX}{s:Int}{x:cX}(h:j0 D s=some x):pF D s=0/\iR D s=x.2.2/\xL D s=decide (x.2.2≠x.2.1):=by
 unfold pF iR xL;rw[h];exact⟨rfl,rfl,rfl⟩
theorem agM{D:List cX}{s:Int}(h:j0 D s=none):pF D s=4/\iR D s=[]/\xL D s=false:=by
 unfold pF iR xL;rw[h];exact⟨rfl,rfl,rfl⟩
theorem agN{c:cD}{w s:Int}(h:s∈cn c w):pF (nj c w) s=0/\iR (nj c w) s=gW c s/\xL (nj c w) s=false:=by
 obtain⟨h1,ah,aB⟩:=Wb (Wa h);exact⟨h1,ah,by rw[aB];simp⟩
def nk:cD:=⟨[[97],[97,98,99],[98]],[⟨2,[]⟩],2,1,1,1,1,1,1,1,0,8⟩
theorem Wc:rX nk 1=true:=by decide +kernel
theorem agO:cn nk 1=[0]:=by decide +kernel
end Go.ak
namespace Go.aH
open Go Go.ak
structure i1 where
 shard:Int
 r:cK
 b:cK
def j9(x:i1):List Value:=[.int .i64 x.shard,x.r.val,x.b.val]
theorem A7(x:i1):(j9 x).length=3:=rfl
theorem agP(x:i1):(j9 x).all (·.oneCell')=true:=rfl
def pG(w:World)(F:Nat->Prop)(rows:List i1)(K:List cX):Prop:=cZ (λr e=>r.shard=e.1/\aq eA w F r.r.val e.2.1/\aq eA w F r.b.val e.2.2) rows K
theorem pG.keep{M:Nat->Prop}{w an:World}{F:Nat->Prop}{rows:List i1}{K:List cX}(h:pG w F rows K)(hm:Mod M w an)(bs:∀b,F b->¬ M b):pG an F rows K:=
 cZ.imp (λ_ _ k=>⟨k.1,k.2.1.keep hm bs,k.2.2.keep hm bs⟩) h
theorem pG.mono{w:World}{F F':Nat->Prop}{rows:List i1}{K:List cX}(h:pG w F rows K)(bs:∀b,F b->F' b):pG w F' rows K:=
 cZ.imp (λ_ _ k=>⟨k.1,k.2.1.mono bs,k.2.2.mono bs⟩) h
theorem pG.at{w:World}{F:Nat->Prop}{rows:List i1}{K:List cX}(h:pG w F rows K){i:Nat}{r:i1}(a':rows[i]?=some r):∃e,K[i]?=some e/\r.shard=e.1/\aq eA w F r.r.val e.2.1/\aq eA w F r.b.val e.2.2:=by
 obtain⟨h1,ah⟩:=cZ.get h;have ar:=(List.getElem?_eq_some_iff.1 a').1;exact⟨_,List.getElem?_eq_getElem aa,ah i r _ a' (List.getElem?_eq_getElem aa)⟩
theorem cZ.set{α β:Type}{Q:α->β->Prop}:∀{l:List α} {m:List β} (k:Nat) {a:α} {b:β},cZ Q l m->Q a b->cZ Q (l.set k a) (m.set k b)
 | _,_,_,_,_,.nil,_=>.nil
 | _,_,0,_,_,.cons _ h,mG=>.cons mG h
 | _,_,k+1,_,_,.cons h1 h,mG=>.cons h1 (cZ.set k h mG)
section
variable {R F:Nat->Prop} {w:World} {rows:List i1} {K:List cX}
def jI{R:Nat->Prop}(rows:List i1)(K:List cX):dk R:=⟨λF w=>pG w F rows K,λh hm bs _=>h.keep hm bs⟩
theorem agQ{e:TypeId}{x:cK}{v:Value}{s:Int}{vd:List UInt8}(cI:v=x.val)(h:(bk (R:=R) [jI rows K,aS eA e 1 v vd]).p F w):(jI (R:=R) (rows++[⟨s,x,x⟩]) (K++[(s,vd,vd)])).p F w:=by
 obtain⟨fq,bu,h1,ah,aB,bE⟩:=u_ h;exact cZ.app (pG.mono h1 aB) (.cons ⟨rfl,cI▸(th ah).mono bE,cI▸(th ah).mono bE⟩ .nil)
theorem agR{e:TypeId}{x:cK}{v:Value}{r:i1}{k:Nat}{vd:List UInt8}(cI:v=x.val)(a':rows[k]?=some r){y:cX}(aD:K[k]?=some y)(h:(bk (R:=R) [jI rows K,aS eA e 1 v vd]).p F w):(jI (R:=R) (rows.set k { r with b:=x }) (K.set k (y.1,y.2.1,vd))).p F w:=by
 obtain⟨fq,bu,h1,ah,aB,bE⟩:=u_ h;obtain⟨nD,he,bC,cy,dE⟩:=pG.at h1 a';obtain rfl:nD=y:=Option.some.inj (he.symm.trans aD);exact cZ.set k (pG.mono h1 aB) ⟨bC,cy.mono aB,cI▸(th ah).mono bE⟩
theorem agS{r:i1}{k:Nat}(a':rows[k]?=some r){y:cX}(aD:K[k]?=some y)(h:(jI (R:=R) rows K).p F w):(jI (R:=R) (rows.set k { r with b:=r.r }) (K.set k (y.1,y.2.1,y.2.1))).p F w:=by
 obtain⟨nD,he,bC,cy,dE⟩:=pG.at h a';obtain rfl:nD=y:=Option.some.inj (he.symm.trans aD);exact cZ.set k h ⟨bC,cy,cy⟩
def kv{R:Nat->Prop}(C3 eI:TypeId)(c_:Nat)(pH:Int)(K:List cX):dk R:=nK λx:Value×List i1=>bk [ax c_ [x.1,.int .i64 pH] C3,aS j9 eI 3 x.1 x.2,jI x.2 K]
def hQ{R:Nat->Prop}(jh eI u8:TypeId)(dh:Nat)(life:Int)(K:List cX):dk R:=nK λD:List ku=>pD (D.map nP=K) (agC jh eI u8 dh life D)
end
end Go.aH
namespace Go.aH
open Go Go.ak
section
variable {R F:Nat->Prop} {w:World}
theorem agT{eI u8:TypeId}{D:List ku}(h:(bk (R:=R) (D.map (hv eI u8))).p F w){x:ku}(ag:x∈D):∃oM gJ,dv w x.ptr [oM,gJ] eI/\aq eA w F oM x.fO/\aq eA w F gJ x.now:=by
 obtain⟨k,hk⟩:=List.mem_iff_getElem?.1 ag;obtain⟨fe,h1,ah,_⟩:=h;obtain⟨⟨oM,gJ⟩,ab⟩:=h1 k (hv eI u8 x) (by rw[List.getElem?_map,hk];rfl);obtain⟨T1,g1,g2,_⟩:=ab;have eb:=g1 0 _ rfl;have q2:=g1 1 _ rfl;have fx:=g1 2 _ rfl;refine⟨oM,gJ,eb.1,(th q2).mono λb ab=>?_,(th fx).mono λb ab=>?_⟩
 . exact(ah k b (g2 1 b ab).1.1).1.1
 . exact(ah k b (g2 2 b ab).1.1).1.1
theorem IQ{jh eI u8:TypeId}{dh:Nat}{life:Int}{K:List cX}(h:(hQ (R:=R) jh eI u8 dh life K).p F w):∃(D:List ku) (e8:Nat),D.map nP=K/\dv w dh [.map (some e8),.int .i64 life] jh/\ng fC nO w e8 (D.map λx=>(x.shard,x.ptr))/\∀x∈D,∃oM gJ,dv w x.ptr [oM,gJ] eI/\aq eA w F oM x.fO/\aq eA w F gJ x.now:=by
 obtain⟨D,j1,e8,fe,h1,ah,_⟩:=h;have eb:=h1 0 _ rfl;have q2:=h1 1 _ rfl;have fx:=h1 2 _ rfl;refine⟨D,e8,j1,eb.1,q2.1,λx ag=>?_⟩;obtain⟨oM,gJ,bC,cy,dE⟩:=agT fx ag;exact⟨oM,gJ,bC,cy.mono λb ab=>(ah 2 b ab).1.1,dE.mono λb ab=>(ah 2 b ab).1.1⟩
theorem Wd{D:List ku}{K:List cX}{s:Int}{x:cX}(j1:D.map nP=K)(h:j0 K s=some x):∃(k:Nat) (y:ku),D[k]?=some y/\nP y=x/\y.shard=s/\gv (D.map λx=>(x.shard,x.ptr)) s=some y.ptr:=by
 subst j1;exact agG h
theorem No{D:List ku}{K:List cX}{s:Int}(j1:D.map nP=K)(h:j0 K s=none):gv (D.map λx=>(x.shard,x.ptr)) s=none:=by
 subst j1;exact agH h
theorem uf{K:List cX}{s:Int}(h:j0 K s=none):pF K s=4/\iR K s=[]/\xL K s=false/\(∀f,om K s f=K):=by
 unfold pF iR xL;rw[h];exact⟨rfl,rfl,rfl,λf=>agF h⟩
theorem zc{K:List cX}{s:Int}{x:cX}(h:j0 K s=some x):pF K s=0/\iR K s=x.2.2/\xL K s=decide (x.2.2≠x.2.1):=by
 unfold pF iR xL;rw[h];exact⟨rfl,rfl,rfl⟩
theorem We{jh eI u8:TypeId}{dh:Nat}{life:Int}{K:List cX}{s:Int}{x:cX}(h:(hQ (R:=R) jh eI u8 dh life K).p F w)(ag:j0 K s=some x):∃(D:List ku) (k:Nat) (y:ku) (e8:Nat),D.map nP=K/\D[k]?=some y/\nP y=x/\y.shard=s/\gv (D.map λx=>(x.shard,x.ptr)) s=some y.ptr /\
 (bk (R:=R) [ax dh [.map (some e8),.int .i64 life] jh,lx fC nO e8 (D.map λx=>(x.shard,x.ptr)),bk ((D.take k).map (hv eI u8)),hv eI u8 y,bk ((D.drop (k+1)).map (hv eI u8))]).p F w:=by
 obtain⟨D,j1,e8,wD⟩:=h;obtain⟨k,y,h1,ah,aB,bE⟩:=Wd j1 ag;refine⟨D,k,y,e8,j1,h1,ah,aB,bE,?_⟩;obtain⟨fe,g1,g2,g3⟩:=wD;have fx:=agA (R:=R) (eI:=eI) (u8:=u8) h1 (fe 2) (g1 2 _ rfl)
 have:Sep (R:=R) [ax dh [.map (some e8),.int .i64 life] jh,lx fC nO e8 (D.map λx=>(x.shard,x.ptr)),bk [bk ((D.take k).map (hv eI u8)),hv eI u8 y,bk ((D.drop (k+1)).map (hv eI u8))]] F w:=by
  refine⟨fe,λi A bf=>?_,g2,g3⟩
  match i,bf with
  | 0,bf=>exact g1 0 A bf
  | 1,bf=>exact g1 1 A bf
  | 2,bf =>
   simp only[List.getElem?_cons_succ,List.getElem?_cons_zero,Option.some.injEq] at bf
   subst bf
   exact fx
  | n+3,bf=>simp at bf
 exact Sep.open (L1:=[_,_]) this
theorem Wf{jh eI u8:TypeId}{dh:Nat}{life:Int}{K:List cX}{D:List ku}{k:Nat}{y:ku}{e8:Nat}{s:Int}{f:List UInt8->List UInt8}(j1:D.map nP=K)(eR:pe K)(hk:D[k]?=some y)(C4:y.shard=s)
 (h:(bk (R:=R) [ax dh [.map (some e8),.int .i64 life] jh,lx fC nO e8 (D.map λx=>(x.shard,x.ptr)),bk ((D.take k).map (hv eI u8)),hv eI u8 { y with now:=f y.fO },bk ((D.drop (k+1)).map (hv eI u8))]).p F w):(hQ (R:=R) jh eI u8 dh life (om K s f)).p F w:=by
 subst j1;subst C4;refine⟨D.set k { y with now:=f y.fO },agI eR hk rfl,e8,?_⟩;have ah:Sep ([ax (R:=R) dh [.map (some e8),.int .i64 life] jh,lx fC nO e8 (D.map λx=>(x.shard,x.ptr))]++[bk ((D.take k).map (hv eI u8)),hv eI u8 { y with now:=f y.fO },bk ((D.drop (k+1)).map (hv eI u8))]) F w:=h;have aB:=ah.close;obtain⟨fe,g1,g2,g3⟩:=aB;refine⟨fe,λi A bf=>?_,g2,g3⟩
 match i,bf with
 | 0,bf=>exact g1 0 A bf
 | 1,bf =>
  rw[agJ hk] at bf;exact g1 1 A bf
 | 2,bf =>
  simp only[List.getElem?_cons_succ,List.getElem?_cons_zero,Option.some.injEq] at bf;subst bf;exact agB (R:=R) (eI:=eI) (u8:=u8) hk (fe 2) (g1 2 _ rfl)
 | n+3,bf=>simp at bf
theorem Wg{jh eI u8:TypeId}{dh:Nat}{life:Int}{K:List cX}(h:(hQ (R:=R) jh eI u8 dh life K).p F w):∃(D:List ku) (e8:Nat),D.map nP=K/\(bk (R:=R) [ax dh [.map (some e8),.int .i64 life] jh,lx fC nO e8 (D.map λx=>(x.shard,x.ptr)),bk (D.map (hv eI u8))]).p F w:=by
 obtain⟨D,j1,e8,wD⟩:=h;exact⟨D,e8,j1,wD⟩
theorem agU{jh eI u8:TypeId}{dh:Nat}{life:Int}{K:List cX}{D:List ku}{e8:Nat}(j1:D.map nP=K)(h:(bk (R:=R) [ax dh [.map (some e8),.int .i64 life] jh,lx fC nO e8 (D.map λx=>(x.shard,x.ptr)),bk (D.map (hv eI u8))]).p F w):(hQ (R:=R) jh eI u8 dh life K).p F w:=⟨D,j1,e8,h⟩
theorem agV{jh eI u8:TypeId}{dh:Nat}{life:Int}{K:List cX}{D:List ku}{e8:Nat}{y:ku}{s:Int}{vd:List UInt8}(j1:D.map nP=K)(aD:nP y=(s,vd,vd))
 (h:(bk (R:=R) [ax dh [.map (some e8),.int .i64 life] jh,lx fC nO e8 ((D.map λx=>(x.shard,x.ptr))++[(s,y.ptr)]),bk (D.map (hv eI u8)),hv eI u8 y]).p F w):(hQ (R:=R) jh eI u8 dh life (K++[(s,vd,vd)])).p F w:=by
 have aT:y.shard=s:=congrArg Prod.fst aD;refine⟨D++[y],by rw[List.map_append,j1,List.map_singleton,aD],e8,?_⟩;have ah:Sep (R:=R) ([ax dh [.map (some e8),.int .i64 life] jh,lx fC nO e8 ((D.map λx=>(x.shard,x.ptr))++[(s,y.ptr)])]++[bk (D.map (hv eI u8)),hv eI u8 y]) F w:=h;obtain⟨fe,g1,g2,g3⟩:=ah.close;refine⟨fe,λi A bf=>?_,g2,g3⟩
 match i,bf with
 | 0,bf=>exact g1 0 A bf
 | 1,bf =>
  rw[List.map_append,List.map_singleton,aT] at bf;exact g1 1 A bf
 | 2,bf =>
  simp only[List.getElem?_cons_succ,List.getElem?_cons_zero,Option.some.injEq] at bf;subst bf;have k:Sep (R:=R) [bk (D.map (hv eI u8)),hv eI u8 y] (fe 2) w:=g1 2 _ rfl;have cy:Sep (R:=R) [hv eI u8 y,bk (D.map (hv eI u8))] (fe 2) w:=Sep.A5 (A:=[bk (D.map (hv eI u8))]) (B:=[hv eI u8 y]) k;have dE:=(Sep.open (L1:=[hv (R:=R) eI u8 y]) cy);have hg:=Sep.A5 (A:=[hv (R:=R) eI u8 y]) (B:=D.map (hv eI u8)) dE;show Sep (R:=R) ((D++[y]).map (hv eI u8)) (fe 2) w;rw[List.map_append,List.map_singleton];exact hg
 | n+3,bf=>simp at bf
theorem agW{jh eI u8:TypeId}{dh e8:Nat}{life:Int}(h:(bk (R:=R) [ax dh [.map (some e8),.int .i64 life] jh,lx fC nO e8 []]).p F w):(hQ (R:=R) jh eI u8 dh life []).p F w:=by
 refine⟨[],rfl,e8,?_⟩;obtain⟨fe,g1,g2,g3⟩:=h;refine⟨λi b=>fe i b/\i<2,λi A bf=>?_,λi b ab=>g2 i b ab.1,λi j b mY ar bo=>g3 i j b mY ar.1 bo.1⟩
 match i,bf with
 | 0,bf =>
  have:=g1 0 A bf;simpa using this
 | 1,bf =>
  have:=g1 1 A bf;simpa using this
 | 2,bf =>
  simp only[List.getElem?_cons_succ,List.getElem?_cons_zero,Option.some.injEq] at bf;subst bf;exact⟨λ_ _=>False,λi A h=>by simp at h,λ_ _ h=>h.elim,λ_ _ _ _ h=>h.elim⟩
 | n+3,bf=>simp at bf
theorem Np{D:List ku}{s:Int}(h:∀x∈D,x.shard≠s):gv (D.map λx=>(x.shard,x.ptr)) s=none:=by
 rw[Nl,List.find?_eq_none.2]
 . rfl
 . intro x ag;simpa using h x ag
end
section
variable {P:Program} {E:Env} {C:World->Prop} {d:Option Tmp} {ty:TypeId} {pos:String} {af:Array Edge} {gd:Option (Nat×Bool)} {α β:Type} [DecidableEq α] {key:α->Value} {val:β->Value}
theorem bx.Fj{t e2 jk:TypeId}{x y:Operand}{b:Nat}{m:List (α×β)}{a:α}{z:Value}{u:β}(hk:KeyOk P e2 key)(a8:P.underlying t=some (.map e2 jk))(cO:∀w,(zeroValue jk).run P w=.ok z w)(ag:aO E x=some (.map (some b)))(aD:aO E y=some (key a))(hm:∀w,C w->ng key val w b m)(aw:gv m a=some u):
 bx P ⟨d,.lookup t x y false,ty,pos,af,gd⟩ E C (val u):=by
 have h:=bx.TK (d:=d) (ty:=ty) (pos:=pos) (af:=af) (gd:=gd) (val:=val) hk a8 cO ag aD hm;rw[aw] at h;exact h
theorem bx.Wh{t e2 jk:TypeId}{x y:Operand}{b:Nat}{m:List (α×β)}{a:α}{z:Value}(hk:KeyOk P e2 key)(a8:P.underlying t=some (.map e2 jk))(cO:∀w,(zeroValue jk).run P w=.ok z w)(ag:aO E x=some (.map (some b)))(aD:aO E y=some (key a))(hm:∀w,C w->ng key val w b m)(aw:gv m a=none):
 bx P ⟨d,.lookup t x y false,ty,pos,af,gd⟩ E C z:=by
 have h:=bx.TK (d:=d) (ty:=ty) (pos:=pos) (af:=af) (gd:=gd) (val:=val) hk a8 cO ag aD hm;rw[aw] at h;exact h
end
end Go.aH
namespace Go.aH
open Go Go.ak
section
variable {P:Program} {E:Env} {C:World->Prop} {d:Option Tmp} {ty:TypeId} {pos:String} {af:Array Edge} {gd:Option (Nat×Bool)}
theorem bx.IS{t e:TypeId}{n sz by_ b off:Nat}{g:Bool}{z:List Value}{x y:Operand}{k:IntKind}{m:Int}(a8:P.underlying t=some (.array n e))(he:ey P e=some (g,sz,by_,z))(ag:aO E x=some (ptr b off))(aD:aO E y=some (.int k m))(i:Nat)(hm:m=(i:Int))(ar:i<n):
 bx P ⟨d,.indexAddr t x y,ty,pos,af,gd⟩ E C (ptr b (off+i*sz)):=
 bx.indexAddr ag aD λw=>by
  have bK:(0:Int)<=m/\m<(n:Int):=by omega
  have fS:m.toNat=i:=by omega
  simp[Instr.indexAt,asIntOf,run_underlying a8,bK,run_sizeOf he,add_lit,ptr,fS,Instr.sureAddr]
end
def ug(x:Int×Int):List Value:=[.int .i64 x.1,.int .i64 x.2]
theorem Fk(x:Int×Int):(ug x).length=2:=rfl
theorem agX(x:Int×Int):(ug x).all (·.oneCell')=true:=rfl
def tj(w:World)(F:Nat->Prop)(bn:List c7)(N:List k0):Prop:=cZ (λr n=>r.fin=n.1/\aq ug w F r.e.val n.2) bn N
theorem tj.keep{M:Nat->Prop}{w an:World}{F:Nat->Prop}{bn:List c7}{N:List k0}(h:tj w F bn N)(hm:Mod M w an)(bs:∀b,F b->¬ M b):tj an F bn N:=
 cZ.imp (λ_ _ k=>⟨k.1,k.2.keep hm bs⟩) h
theorem tj.mono{w:World}{F F':Nat->Prop}{bn:List c7}{N:List k0}(h:tj w F bn N)(bs:∀b,F b->F' b):tj w F' bn N:=
 cZ.imp (λ_ _ k=>⟨k.1,k.2.mono bs⟩) h
theorem tj.at{w:World}{F:Nat->Prop}{bn:List c7}{N:List k0}(h:tj w F bn N){i:Nat}{r:c7}(a':bn[i]?=some r):∃n,N[i]?=some n/\r.fin=n.1/\aq ug w F r.e.val n.2:=by
 obtain⟨h1,ah⟩:=cZ.get h;have ar:=(List.getElem?_eq_some_iff.1 a').1;exact⟨_,List.getElem?_eq_getElem aa,ah i r _ a' (List.getElem?_eq_getElem aa)⟩
def rY{R:Nat->Prop}(bn:List c7)(N:List k0):dk R:=⟨λF w=>tj w F bn N,λh hm bs _=>h.keep hm bs⟩
theorem Wi{R F:Nat->Prop}{w:World}{e:TypeId}{bn:List c7}{N:List k0}{x:c7}{n:k0}{v:Value}{es:List (Int×Int)}(cI:v=x.e.val)(bB:x.fin=n.1)(aN:es=n.2)(h:(bk (R:=R) [rY bn N,aS ug e 2 v es]).p F w):(rY (R:=R) (bn++[x]) (N++[n])).p F w:=by
 obtain⟨fq,bu,h1,ah,aB,bE⟩:=u_ h;exact cZ.app (tj.mono h1 aB) (.cons ⟨bB,cI▸aN▸(th ah).mono bE⟩ .nil)
theorem au.agY{R bS:Nat->Prop}{w0 w:World}{L:List (dk R)}{i:Nat}{bn:List c7}{N:List k0}(h:au R bS w0 w L)(ar:L[i]?=some (rY bn N)):tj w (dq 0 w.heap.size) bn N:=by
 obtain⟨F,h1,ah⟩:=h.get ar;exact tj.mono h1 λb ab=>⟨Nat.zero_le _,ah b ab⟩
def Nq{R:Nat->Prop}(kZ MP:TypeId)(b:Nat)(fin:Bool)(es:List (Int×Int)):dk R:=nK λv:Value=>bk [ax b [.bool fin,v] kZ,aS ug MP 2 v es]
end Go.aH
namespace Go.ak
open Go.aH
theorem agZ{b:List UInt8}(h:b.length<4):false=ni b:=by unfold ni;exact(decide_eq_false λk=>k.1 h).symm
theorem ag0{b:List UInt8}(h:ni b=true):4<=b.length:=by unfold ni at h;have:=(of_decide_eq_true h).1;omega
theorem ag1{b:List UInt8}{r:Bool}(h:¬ b.length<4)(a':r=(j8 b ((b.length:Int)-4) 4==(kD (b.take (b.length-4)):Int))):r=ni b:=by
 unfold ni;rw[a'];by_cases k:j8 b ((b.length:Int)-4) 4=(kD (b.take (b.length-4)):Int)
 . rw[beq_iff_eq.2 k];exact(decide_eq_true ⟨h,k⟩).symm
 . rw[beq_eq_false_iff_ne.2 k];exact(decide_eq_false λq=>k q.2).symm
def pI(b:List UInt8)(c:Nat)(dB:Int×Bool)(z:Nat)(es:List (Int×Int))(s:Int×Bool):Prop:=pE b c dB=(es++(pE b z s).1,(pE b z s).2)
theorem pI.start(b:List UInt8)(c:Nat)(s:Int×Bool):pI b c s c [] s:=by unfold pI;simp
theorem pI.step{b:List UInt8}{c z:Nat}{dB:Int×Bool}{a:Int}{es:List (Int×Int)}{e:Int×Int}{jT:Int×Bool}(h:pI b c dB (z+1) es (a,false))(he:y' b (a,false)=(e,jT)):pI b c dB z (es++[e]) jT:=by
 unfold pI at *;rw[h]
 conv=>lhs;unfold pE
 rw[if_neg dg,he];simp
theorem ag2{b:List UInt8}{s:Int×Bool}(h:s.2=true):∀n,pE b n s=([],s)
 | 0=>rfl
 | n+1=>by unfold pE;rw[if_pos h]
theorem pI.bad{b:List UInt8}{c z:Nat}{dB:Int×Bool}{a:Int}{es:List (Int×Int)}(h:pI b c dB z es (a,true)):pE b c dB=(es,(a,true)):=by
 unfold pI at h;rw[h,ag2 rfl];simp
theorem pI.fin{b:List UInt8}{c:Nat}{dB:Int×Bool}{es:List (Int×Int)}{s:Int×Bool}(h:pI b c dB 0 es s):pE b c dB=(es,s):=by
 unfold pI at h;rw[h];simp[pE]
def rZ(b:List UInt8)(c:Nat)(dB:Int×Bool)(i:Nat)(N:List k0)(s:Int×Bool):Prop:=lf b c dB=(N++(lf b (c-i) s).1,(lf b (c-i) s).2)
theorem rZ.start(b:List UInt8)(c:Nat)(s:Int×Bool):rZ b c s 0 [] s:=by unfold rZ;simp
theorem rZ.step{b:List UInt8}{c i:Nat}{dB:Int×Bool}{a:Int}{N:List k0}{e:k0}{jT:Int×Bool}(h:rZ b c dB i N (a,false))(ar:i<c)(he:za b (a,false)=(e,jT)):rZ b c dB (i+1) (N++[e]) jT:=by
 unfold rZ at *;rw[h];obtain⟨k,hk⟩:∃k,c-i=k+1:=⟨c-i-1,by omega⟩;rw[hk,show c-(i+1)=k from by omega]
 conv=>lhs;unfold lf
 rw[if_neg dg,he];simp
theorem ag3{b:List UInt8}{s:Int×Bool}(h:s.2=true):∀n,lf b n s=([],s)
 | 0=>rfl
 | n+1=>by unfold lf;rw[if_pos h]
theorem rZ.bad{b:List UInt8}{c i:Nat}{dB:Int×Bool}{a:Int}{N:List k0}(h:rZ b c dB i N (a,true)):lf b c dB=(N,(a,true)):=by
 unfold rZ at h;rw[h,ag3 rfl];simp
theorem rZ.fin{b:List UInt8}{c i:Nat}{dB:Int×Bool}{N:List k0}{s:Int×Bool}(h:rZ b c dB i N s)(ar:c<=i):lf b c dB=(N,s):=by
 unfold rZ at h;rw[h,show c-i=0 from by omega];simp[lf]
theorem ag4{b:List UInt8}{a h9 a2 cf bO:Int}{q eb q2:Bool}(h1:(cf,(h9,eb))=ed b 4 (a,q))(ah:(bO,(a2,q2))=ed b 2 (h9,eb)):y' b (a,q)=((cf,bO),(a2,q2)):=by
 unfold y';rw[<-h1];dsimp only;rw[<-ah]
theorem Wj{b:List UInt8}{a h9 a2 a3 cf bO:Int}{q eb q2 fx:Bool}{es:List (Int×Int)}(h1:(cf,(h9,eb))=ed b 1 (a,q))(ah:(bO,(a2,q2))=ed b 2 (h9,eb))(aB:pE b bO.toNat (a2,q2)=(es,(a3,fx))){f:Bool}(bB:f=decide (cf=1)):za b (a,q)=((f,es),(a3,fx)):=by
 unfold za;rw[<-h1];dsimp only;rw[<-ah];dsimp only;rw[aB,bB]
theorem IT{N:List k0}{f:Nat}{n d:Int}{a:aj}{out:List aj}(h:n<0\/n>=N.length\/d>12\/out.length>60):ig N (f+1) n d a out=(out,false):=by unfold ig;rw[if_pos h]
theorem ag5{N:List k0}{f:Nat}{n d:Int}{a:aj}{out:List aj}{x:k0}(h:¬ (n<0\/n>=N.length\/d>12\/out.length>60))(ag:N[n.toNat]?=some x):ig N (f+1) n d a out=pd (λout e=>ig N f e.2 (d+1) (a++fB e.1) out) (if x.1=true then out++[a] else out) x.2:=by
 conv=>lhs;unfold ig
 rw[if_neg h,ag]
theorem zd(g:List aj->Int×Int->List aj×Bool)(out:List aj){l:List (Int×Int)}{k:Nat}(hk:l.length<=k):pd g out (l.drop k)=(out,true):=by
 rw[List.drop_of_length_le hk];rfl
theorem Nr{α:Type}{l:List α}{k:Nat}{x:α}(ag:l[k]?=some x):l.drop k=x::l.drop (k+1):=by
 obtain⟨h,rfl⟩:=List.getElem?_eq_some_iff.1 ag;exact List.drop_eq_getElem_cons h
theorem ze{g:List aj->Int×Int->List aj×Bool}{out:List aj}{l:List (Int×Int)}{k:Nat}{e:Int×Int}(ag:l[k]?=some e)(h:e.1>1114111):pd g out (l.drop k)=(out,false):=by
 rw[Nr ag];unfold pd;rw[if_pos h]
theorem zf{g:List aj->Int×Int->List aj×Bool}{out:List aj}{l:List (Int×Int)}{k:Nat}{e:Int×Int}(ag:l[k]?=some e)(h:¬ e.1>1114111)(ah:(g out e).2=false\/(g out e).1.length=out.length):pd g out (l.drop k)=((g out e).1,false):=by
 rw[Nr ag];unfold pd;rw[if_neg h,if_pos ah]
theorem ag6{g:List aj->Int×Int->List aj×Bool}{out:List aj}{l:List (Int×Int)}{k:Nat}{e:Int×Int}(ag:l[k]?=some e)(h:¬ e.1>1114111)(ah:¬ ((g out e).2=false\/(g out e).1.length=out.length)):pd g out (l.drop k)=pd g (g out e).1 (l.drop (k+1)):=by
 rw[Nr ag];conv=>lhs;unfold pd
 rw[if_neg h,if_neg ah]
def IU(N:List k0):Prop:=N.length<=65536/\∀x∈N,x.2.length<=65536/\∀e∈x.2,0<=e.1/\e.1<=4294967295/\0<=e.2/\e.2<=65535
theorem Wk{N:List k0}(h:IU N)(bj:N.length<65536){f:Bool}{es:List (Int×Int)}(he:es.length<=65536/\∀e∈es,0<=e.1/\e.1<=4294967295/\0<=e.2/\e.2<=65535):IU (N++[(f,es)]):=by
 refine⟨by rw[List.length_append];simp only[List.length_cons,List.length_nil];omega,λx ag=>?_⟩;rcases List.mem_append.1 ag with ag|ag
 . exact h.2 x ag
 . rw[List.mem_singleton] at ag;subst ag;exact he
theorem Wl{b:List UInt8}(h:(iq b).1≠[]):(h2 b).2=0:=by
 have h1:=(C0 b).1;by_cases ah:(iq b).2=0
 . exact h1.symm.trans ah
 . exact absurd (aga ah) h
theorem Ns{b:List UInt8}(h:(iq b).1≠[]):e6 (h2 b).1=0/\(iq b).1=h7 (h2 b).1:=
 (C0 b).2 ((C0 b).1.trans (Wl h))
end Go.ak
namespace Go.ak
open Go.aH
def nQ(q:List Int)(f:Nat->Int)(r:Int):Nat->Int
 | 0=>f 0+1
 | i+1=>min (min (f (i+1)+1) (nQ q f r i+1)) (f i+if q[i]?=some r then 0 else 1)
def hR(q:List Int)(p:List Int):Nat->Int:=p.foldl (nQ q) λi=>(i:Int)
theorem IV(q p:List Int)(r:Int):hR q (p++[r])=nQ q (hR q p) r:=by unfold hR;rw[List.foldl_append];rfl
def ve(q p:List Int):Int:=hR q p q.length
structure p_(f:Nat->Int):Prop where
 pos:∀i,0<=f i
 one:∀i,f (i+1)<=f i+1/\f i<=f (i+1)+1
theorem ag7{q:List Int}{f:Nat->Int}{r:Int}(h:p_ f):∀i,nQ q f r i<=f i+1
 | 0=>Int.le_refl _
 | i+1=>by unfold nQ;omega
theorem step_pos{q:List Int}{f:Nat->Int}{r:Int}(h:p_ f):∀i,0<=nQ q f r i
 | 0=>by have:=h.pos 0;unfold nQ;omega
 | i+1=>by
  have h1:=h.pos (i+1);have ah:=h.pos i;have aB:=step_pos (q:=q) (r:=r) h i
  unfold nQ;split<;>omega
theorem p_.step {q : List Int} {f : Nat → Int} {r : Int} (h : p_ f) : p_ (nQ q f r) := by
  refine ⟨step_pos h, fun i => ⟨by conv => lhs; unfold nQ
                                   omega, ?_⟩⟩
  have h1 := ag7 (q := q) (r := r) h i;have ah := h.one i;show nQ q f r i ≤ (min (min (f (i + 1) + 1) (nQ q f r i + 1)) (f i + if q[i]? = some r then 0 else 1)) + 1;split <;> omega
theorem p_.id:p_ λi=>(i:Int):=⟨λi=>by omega,λi=>by constructor<;>omega⟩
theorem Wm(q:List Int):∀p:List Int,p_ (hR q p):=by
 intro p;unfold hR
 have:∀(p:List Int) (f:Nat->Int),p_ f->p_ (p.foldl (nQ q) f):=by
  intro p
  induction p with
  | nil=>intro f h;exact h
  | cons r p b'=>intro f h;exact b' _ h.step
 exact this p _ p_.id
theorem Nt{f:Nat->Int}(h:p_ f):∀(i d:Nat),f (i+d)<=f i+d/\f i<=f (i+d)+d
 | i,0=>by simp
 | i,d+1=>by
  have h1:=Nt h i d
  have ah:=h.one (i+d)
  rw[show i+(d+1)=i+d+1 from by omega]
  omega
theorem IW{f:Nat->Int}(h:p_ f)(i j:Nat):f i<=f j+max ((i:Int)-j) ((j:Int)-i):=by
 rcases Nat.le_total i j with mY|mY
 . have:=(Nt h i (j-i)).2;rw[show i+(j-i)=j from by omega] at this;omega
 . have:=(Nt h j (i-j)).1;rw[show j+(i-j)=i from by omega] at this;omega
def jJ(k:Int)(f:Nat->Int)(i:Nat):Int:=min (f i) (k+1)
theorem p_.cap{f:Nat->Int}{k:Int}(hk:0<=k)(h:p_ f):p_ (jJ k f):=⟨λi=>by have:=h.pos i;unfold jJ;omega,λi=>by have:=h.one i;unfold jJ;omega⟩
def fF(k:Int)(q:List Int)(f:Nat->Int)(r:Int):Nat->Int
 | 0=>min (f 0+1) (k+1)
 | i+1=>min (min (min (f (i+1)+1) (fF k q f r i+1)) (f i+if q[i]?=some r then 0 else 1)) (k+1)
theorem Wn(k:Int)(q:List Int)(f:Nat->Int)(r:Int):∀i,fF k q (jJ k f) r i=jJ k (nQ q f r) i
 | 0=>by unfold fF jJ nQ;omega
 | i+1=>by
  have b':=Wn k q f r i
  show min (min (min (jJ k f (i+1)+1) (fF k q (jJ k f) r i+1)) (jJ k f i+if q[i]?=some r then 0 else 1)) (k+1)=min (min (min (f (i+1)+1) (nQ q f r i+1)) (f i+if q[i]?=some r then 0 else 1)) (k+1)
  rw[b']
  unfold jJ
  split<;>omega
structure Pos where
 at_:Int
 ck:Int
deriving DecidableEq
def nm(n:Nat)(k:Int)(f:Nat->Int)(j:Nat):Bool:=(List.range n).any λ(i:Nat)=>decide (f i<f j) && decide (max ((i:Int)-(j:Int)) ((j:Int)-(i:Int))<=f j-f i)
def fL(n:Nat)(k:Int)(f:Nat->Int):List Pos:=((List.range n).filter λ(j:Nat)=>decide (f j<=k) && !nm n k f j).map λ(j:Nat)=>Pos.mk (j:Int) (f j)
def dY(n:Nat)(k:Int)(s:List Pos)(i:Nat):Int:=s.foldl (λ(a:Int) (p:Pos)=>if (0<=p.at_/\p.at_<=(n:Int)/\0<=p.ck/\p.ck<=k)/\max ((i:Int)-p.at_) (p.at_-(i:Int))<=k then min a (p.ck+max ((i:Int)-p.at_) (p.at_-(i:Int))) else a) (k+1)
theorem IX{α:Type}(g:α->Option Int):∀(l:List α) (a:Int),l.foldl (λa p=>match g p with|some x=>min a x|none=>a) a<=a
 | [],a=>Int.le_refl _
 | p::l,a=>by
  rw[List.foldl_cons]
  have:=IX g l (match g p with|some x=>min a x|none=>a)
  cases h:g p with
  | none=>rw[h] at this;exact this
  | some x=>rw[h] at this;simp only at this ⊢;omega
theorem Wo{α:Type}(g:α->Option Int):∀(l:List α) (a x:Int) (p:α),p∈l->g p=some x->l.foldl (λa p=>match g p with|some x=>min a x|none=>a) a<=x
 | q::l,a,x,p,hp,ag=>by
  rw[List.foldl_cons]
  rcases List.mem_cons.1 hp with rfl|hp
  . have:=IX g l (match g p with|some x=>min a x|none=>a)
    rw[ag] at this ⊢;simp only at this ⊢;omega
  . exact Wo g l _ x p hp ag
theorem Nu{α:Type}(g:α->Option Int)(m:Int):∀(l:List α) (a:Int),m<=a->(∀p∈l,∀x,g p=some x->m<=x)->m<=l.foldl (λa p=>match g p with|some x=>min a x|none=>a) a
 | [],a,h,_=>h
 | p::l,a,h,bj=>by
  rw[List.foldl_cons]
  refine Nu g m l _ ?_ λq dH=>bj q (by simp[dH])
  cases aU:g p with
  | none=>exact h
  | some x=>have:=bj p dg x aU;simp only;omega
def xO(n:Nat)(k:Int)(i:Nat)(p:Pos):Option Int:=if (0<=p.at_/\p.at_<=(n:Int)/\0<=p.ck/\p.ck<=k)/\max ((i:Int)-p.at_) (p.at_-(i:Int))<=k then some (p.ck+max ((i:Int)-p.at_) (p.at_-(i:Int))) else none
theorem Wp(n:Nat)(k:Int)(s:List Pos)(i:Nat):dY n k s i=s.foldl (λa p=>match xO n k i p with|some x=>min a x|none=>a) (k+1):=by
 unfold dY;congr 1
 funext a p;unfold xO;split<;>rfl
theorem Wq{n:Nat}{k:Int}{f:Nat->Int}{p:Pos}:p∈fL n k f↔∃j,j<n/\f j<=k/\nm n k f j=false/\p=⟨(j:Int),f j⟩:=by
 unfold fL;simp only[List.mem_map,List.mem_filter,List.mem_range,Bool.and_eq_true,decide_eq_true_eq,Bool.not_eq_true'];constructor
 . rintro⟨j,⟨h1,ah,aB⟩,rfl⟩;exact⟨j,h1,ah,aB,rfl⟩
 . rintro⟨j,h1,ah,aB,rfl⟩;exact⟨j,⟨h1,ah,aB⟩,rfl⟩
theorem Wr{n:Nat}{k:Int}{f:Nat->Int}(h:p_ f):∀(m i:Nat),f i<=m->i<n->∃j,j<n/\nm n k f j=false/\f j+max ((i:Int)-j) ((j:Int)-i)=f i
 | 0,i,hm,ar=>by
  refine⟨i,ar,?_,by omega⟩
  unfold nm
  rw[List.any_eq_false]
  intro j bo
  have:=h.pos j
  simp only[Bool.and_eq_true,decide_eq_true_eq,not_and]
  intro hL;omega
 | m+1,i,hm,ar=>by
  by_cases bj:nm n k f i=true
  . unfold nm at bj
    rw[List.any_eq_true] at bj
    obtain⟨j,bo,ao⟩:=bj
    simp only[Bool.and_eq_true,decide_eq_true_eq] at ao
    have ag8:=List.mem_range.1 bo
    have h1:=IW h i j
    obtain⟨t,a8,Fl,asS⟩:=Wr (k:=k) h m j aa ag8
    refine⟨t,a8,Fl,?_⟩
    have ah:=IW h i t
    omega
  . exact⟨i,ar,by simpa using bj,by omega⟩
theorem ag9{n:Nat}{k:Int}{f:Nat->Int}(hk:0<=k)(h:p_ f){i:Nat}(ar:i<n+1):dY n k (fL (n+1) k f) i=jJ k f i:=by
 rw[Wp]
 have yH:jJ k f i<=(fL (n+1) k f).foldl (λa p=>match xO n k i p with|some x=>min a x|none=>a) (k+1):=by
  refine Nu _ _ _ _ (by unfold jJ;omega) λp hp x ag=>?_
  obtain⟨j,h1,ah,aB,rfl⟩:=Wq.1 hp
  unfold xO at ag
  split at ag
  . cases ag
    have:=IW h i j
    unfold jJ;simp only;omega
  . cases ag
 have hle:(fL (n+1) k f).foldl (λa p=>match xO n k i p with|some x=>min a x|none=>a) (k+1)<=jJ k f i:=by
  by_cases ao:f i<=k
  . obtain⟨j,h1,ah,aB⟩:=Wr (n:=n+1) (k:=k) h (f i).toNat i aa ar
    have hp:=h.pos j
    have:=Wo (xO n k i) (fL (n+1) k f) (k+1) (f i) ⟨(j:Int),f j⟩ (Wq.2 ⟨j,h1,by omega,ah,rfl⟩) (by
     unfold xO
     rw[if_pos (by simp only;omega)]
     simp only
     rw[aB])
    unfold jJ;omega
  . have:=IX (xO n k i) (fL (n+1) k f) (k+1)
    unfold jJ;omega
 omega
theorem ag_{n:Nat}{k:Int}(f:Nat->Int):fL n k (jJ k f)=fL n k f:=by
 unfold fL
 have bB:∀j,(decide (jJ k f j<=k) && !nm n k (jJ k f) j)=(decide (f j<=k) && !nm n k f j):=by
  intro j
  by_cases bo:f j<=k
  . have fS:jJ k f j=f j:=by unfold jJ;omega
    have jd:nm n k (jJ k f) j=nm n k f j:=by
     unfold nm
     refine List.any_congr rfl λi=>?_
     rw[fS]
     by_cases ar:f i<=k
     . rw[show jJ k f i=f i from by unfold jJ;omega]
     . rw[show decide (jJ k f i<f j)=false from decide_eq_false (by unfold jJ;omega),show decide (f i<f j)=false from decide_eq_false aa,Bool.false_and,Bool.false_and]
    rw[fS,jd]
  . rw[show decide (jJ k f j<=k)=false from decide_eq_false (by unfold jJ;omega),show decide (f j<=k)=false from decide_eq_false bo]
    rfl
 rw[List.filter_congr λj _=>bB j];refine List.map_congr_left λj bo=>?_
 have:=(List.mem_filter.1 bo).2;simp only[Bool.and_eq_true,decide_eq_true_eq] at this;rw[show jJ k f j=f j from by unfold jJ;omega]
def fr(q:List Int)(k:Int)(p:List Int):List Pos:=fL (q.length+1) k (hR q p)
theorem Fm{q:List Int}{k:Int}(hk:0<=k)(p:List Int){i:Nat}(ar:i<q.length+1):dY q.length k (fr q k p) i=jJ k (hR q p) i:=ag9 hk (Wm q p) ar
theorem ag'{q:List Int}{k:Int}(hk:0<=k):fr q k []=[⟨0,0⟩]:=by
 unfold fr fL
 have bB:∀j∈List.range (q.length+1),(decide (hR q [] j<=k) && !nm (q.length+1) k (hR q []) j)=decide (j=0):=by
  intro j bo
  by_cases bK:j=0
  . subst bK
    have:nm (q.length+1) k (hR q []) 0=false:=by
     unfold nm
     rw[List.any_eq_false]
     intro i ar
     simp only[Bool.and_eq_true,decide_eq_true_eq,not_and]
     intro hL
     have:(i:Int)<((0:Nat):Int):=hL
     omega
    rw[this]
    have:hR q [] 0=0:=rfl
    rw[this]
    simp[hk]
  . have:nm (q.length+1) k (hR q []) j=true:=by
     unfold nm
     rw[List.any_eq_true]
     refine⟨0,by simp,?_⟩
     simp only[Bool.and_eq_true,decide_eq_true_eq]
     have j7:hR q [] 0=0:=rfl
     have aha:hR q [] j=(j:Int):=rfl
     rw[j7,aha]
     omega
    rw[this]
    simp[bK]
 rw[List.filter_congr bB]
 have:(List.range (q.length+1)).filter (λj=>decide (j=0))=[0]:=by
  rw[List.range_succ_eq_map,List.filter_cons_of_pos dg]
  congr 1
  rw[List.filter_eq_nil_iff]
  intro a aw
  obtain⟨b,_,rfl⟩:=List.mem_map.1 aw
  simp
 rw[this];rfl
theorem Ws{q:List Int}{k:Int}(hk:0<=k)(p:List Int)(r:Int):fL (q.length+1) k (fF k q (dY q.length k (fr q k p)) r)=fr q k (p++[r]):=by
 unfold fr;rw[IV,<-ag_ (nQ q (hR q p) r)]
 have ao:∀i,i<q.length+1->fF k q (dY q.length k (fr q k p)) r i=jJ k (nQ q (hR q p) r) i:=by
  intro i ar
  rw[<-Wn]
  have:∀i,i<q.length+1->fF k q (dY q.length k (fr q k p)) r i=fF k q (jJ k (hR q p)) r i:=by
   intro i
   induction i with
   | zero=>intro ar;unfold fF;rw[Fm hk p ar]
   | succ i b' =>
    intro ar
    show min (min (min (dY q.length k (fr q k p) (i+1)+1) (fF k q (dY q.length k (fr q k p)) r i+1)) (dY q.length k (fr q k p) i+if q[i]?=some r then 0 else 1)) (k+1)=min (min (min (jJ k (hR q p) (i+1)+1) (fF k q (jJ k (hR q p)) r i+1)) (jJ k (hR q p) i+if q[i]?=some r then 0 else 1)) (k+1)
    rw[b' aa,Fm hk p ar,Fm hk p (by omega:i<q.length+1)]
  exact this i ar
 exact ahb ao
where
 ahb {n:Nat} {k:Int} {f g:Nat->Int} (h:∀i,i<n->f i=g i):fL n k f=fL n k g:=by
  unfold fL
  have bj:∀j,j<n->nm n k f j=nm n k g j:=by
   intro j bo
   unfold nm
   rw[Bool.eq_iff_iff,List.any_eq_true,List.any_eq_true]
   constructor
   . rintro⟨i,ar,ao⟩
     refine⟨i,ar,?_⟩
     rw[<-h i (List.mem_range.1 ar),<-h j bo];exact ao
   . rintro⟨i,ar,ao⟩
     refine⟨i,ar,?_⟩
     rw[h i (List.mem_range.1 ar),h j bo];exact ao
  rw[List.filter_congr λj bo=>by rw[h j (List.mem_range.1 bo),bj j (List.mem_range.1 bo)]]
  refine List.map_congr_left λj bo=>?_
  have:=List.mem_range.1 (List.mem_filter.1 bo).1
  rw[h j this]
theorem Wt{q:List Int}{f:Nat->Int}{r m:Int}(h:∀i,i<q.length+1->m<=f i):∀i,i<q.length+1->m<=nQ q f r i
 | 0,ar=>by have:=h 0 ar;unfold nQ;omega
 | i+1,ar=>by
  have h1:=h (i+1) ar;have ah:=h i aa;have aB:=Wt (r:=r) h i aa
  unfold nQ;split<;>omega
theorem ahc{q:List Int}{k:Int}(hk:0<=k){p:List Int}(h:fr q k p=[]):∀i,i<q.length+1->k+1<=hR q p i:=by
 intro i ar;have:=Fm hk p ar;rw[h] at this;have e:dY q.length k [] i=k+1:=rfl;rw[e] at this;unfold jJ at this;omega
theorem ahd{q:List Int}{k:Int}{p:List Int}(h:∀i,i<q.length+1->k+1<=hR q p i):∀(u:List Int),k+1<=ve q (p++u):=by
 have key:∀(u p:List Int),(∀i,i<q.length+1->k+1<=hR q p i)->∀i,i<q.length+1->k+1<=hR q (p++u) i:=by
  intro u
  induction u with
  | nil=>intro p h;simpa using h
  | cons r u b' =>
   intro p h
   have:=b' (p++[r]) (by rw[IV];exact Wt h)
   rw[List.append_assoc] at this
   exact this
 intro u;exact key u p h q.length aa
theorem ahe{q:List Int}{k:Int}(hk:0<=k)(p:List Int):dY q.length k (fr q k p) q.length=min (ve q p) (k+1):=Fm hk p aa
end Go.ak
namespace Go.ak
open Go.aH
def lA(x:Pos):List Value:=[.int .i64 x.at_,.int .i64 x.ck]
theorem Wu(x:Pos):(lA x).length=2:=rfl
theorem ahf(x:Pos):(lA x).all (·.oneCell')=true:=rfl
def gq(n:Nat)(f:Nat->Int):List Int:=(List.range (n+1)).map f
theorem xP(n:Nat)(f:Nat->Int):(gq n f).length=n+1:=by simp[gq]
theorem pf{n:Nat}{f:Nat->Int}{i:Nat}{x:Int}(h:(gq n f)[i]?=some x):x=f i/\i<n+1:=by
 obtain⟨ar,h1⟩:=List.getElem?_eq_some_iff.1 h;rw[xP] at ar;unfold gq at h;rw[List.getElem?_map,List.getElem?_range ar] at h;exact⟨by simpa using h.symm,ar⟩
theorem Fo{n:Nat}{f g:Nat->Int}(h:∀i,i<n+1->f i=g i):gq n f=gq n g:=by
 unfold gq;exact List.map_congr_left λi ar=>h i (List.mem_range.1 ar)
theorem IY{n:Nat}{f g:Nat->Int}{i:Nat}{x:Int}(ar:i<n+1)(ag:x=g i)(h:∀j,j<n+1->j≠i->f j=g j):(gq n f).set i x=gq n g:=by
 refine List.ext_getElem? λj=>?_
 unfold gq;rw[List.getElem?_set];split
 . rename_i e;subst e;rw[if_pos (by simp;exact ar),List.getElem?_map,List.getElem?_range ar,ag];rfl
 . rename_i dG;by_cases bo:j<n+1
   . rw[List.getElem?_map,List.getElem?_map,List.getElem?_range bo];simp[h j bo (λe=>dG e.symm)]
   . rw[List.getElem?_eq_none (by simp;omega),List.getElem?_eq_none (by simp;omega)]
theorem ahg(n:Nat)(k:Int):List.replicate (n+1) (0:Int)=gq n λj=>if j<0 then k+1 else 0:=by
 refine List.ext_getElem (by simp[gq]) λi h1 ah=>?_
 simp[gq]
theorem ahh{n i:Nat}{k:Int}{l:List Int}(h:l=gq n λj=>if j<i then k+1 else 0)(ar:i<n+1):l.set i (k+1)=gq n λj=>if j<i+1 then k+1 else 0:=by
 rw[h];refine IY ar dg λj bo dG=>?_
 by_cases iZ:j<i
 . rw[if_pos iZ,if_pos aa]
 . rw[if_neg iZ,if_neg aa]
theorem ahi{n i:Nat}{k:Int}{l:List Int}(h:l=gq n λj=>if j<i then k+1 else 0)(ar:n+1<=i):l=gq n (dY n k []):=by
 rw[h];refine Fo λj bo=>?_
 rw[if_pos aa];rfl
theorem ahj(n:Nat)(k:Int)(s:List Pos)(p:Pos)(x:Nat):dY n k (s++[p]) x=if (0<=p.at_/\p.at_<=(n:Int)/\0<=p.ck/\p.ck<=k)/\max ((x:Int)-p.at_) (p.at_-(x:Int))<=k then min (dY n k s x) (p.ck+max ((x:Int)-p.at_) (p.at_-(x:Int))) else dY n k s x:=by
 unfold dY;rw[List.foldl_append];rfl
theorem IZ{n:Nat}{k:Int}{s:List Pos}{j:Nat}{p:Pos}(hp:s[j]?=some p)(x:Nat):dY n k (s.take (j+1)) x=if (0<=p.at_/\p.at_<=(n:Int)/\0<=p.ck/\p.ck<=k)/\max ((x:Int)-p.at_) (p.at_-(x:Int))<=k then min (dY n k (s.take j) x) (p.ck+max ((x:Int)-p.at_) (p.at_-(x:Int))) else dY n k (s.take j) x:=by
 rw[List.take_add_one,hp];exact ahj n k _ p x
def tk(n:Nat)(k:Int)(s:List Pos)(j:Nat)(i:Int)(x:Nat):Int:=if (x:Int)<i then dY n k (s.take (j+1)) x else dY n k (s.take j) x
theorem ahk{n:Nat}{k:Int}{s:List Pos}{j:Nat}{p:Pos}(hp:s[j]?=some p)(h:p.at_<0\/p.at_>(n:Int)\/p.ck<0\/p.ck>k):gq n (dY n k (s.take j))=gq n (dY n k (s.take (j+1))):=by
 refine Fo λx _=>?_
 rw[IZ hp,if_neg aa]
theorem ahl{n:Nat}{k:Int}{s:List Pos}{j:Nat}{p:Pos}(hp:s[j]?=some p){i:Int}(ar:i=max (p.at_-k) 0):gq n (dY n k (s.take j))=gq n (tk n k s j i):=by
 refine Fo λx _=>?_
 unfold tk;split
 . rw[IZ hp,if_neg aa]
 . rfl
theorem ahm{n:Nat}{k:Int}{s:List Pos}{j:Nat}{p:Pos}(hp:s[j]?=some p){i:Int}(bK:0<=i)(AZ:i<=(n:Int))(cI:0<=p.at_/\p.at_<=(n:Int)/\0<=p.ck/\p.ck<=k)(h1:p.at_-k<=i)(ah:i<=p.at_+k){x:Int}(ag:(gq n (tk n k s j i))[i.toNat]?=some x):
 (gq n (tk n k s j i)).set i.toNat (min x (p.ck+max (i-p.at_) (p.at_-i)))=gq n (tk n k s j (i+1)):=by
 obtain⟨wE,hL⟩:=pf ag;have ar:(i.toNat:Int)=i:=(by omega);refine IY hL ?_ λy aD dG=>?_
 . rw[wE];unfold tk;rw[if_neg aa,if_pos aa,IZ hp,if_pos ⟨cI,by omega⟩,ar]
 . unfold tk;by_cases h:(y:Int)<i
   . rw[if_pos h,if_pos aa]
   . rw[if_neg h,if_neg aa]
theorem ahn{n:Nat}{k:Int}{s:List Pos}{j:Nat}{p:Pos}(hp:s[j]?=some p){i:Int}(h:i>min (p.at_+k) (n:Int)):gq n (tk n k s j i)=gq n (dY n k (s.take (j+1))):=by
 refine Fo λx ag=>?_
 unfold tk;split
 . rfl
 . rw[IZ hp,if_neg aa]
theorem aho{n:Nat}{k:Int}{s:List Pos}{j:Nat}{l:List Int}(h:l=gq n (dY n k (s.take j)))(bo:s.length<=j):l=gq n (dY n k s):=by
 rw[h,List.take_of_length_le bo]
theorem xQ{n:Nat}{k:Int}(hk:0<=k)(s:List Pos)(x:Nat):0<=dY n k s x/\dY n k s x<=k+1:=by
 rw[Wp];refine⟨Nu _ _ _ _ aa λp hp y aD=>?_,IX _ _ _⟩;unfold xO at aD;split at aD
 . cases aD;omega
 . cases aD
theorem asT{n:Nat}{k:Int}{s:List Pos}{j:Nat}{i:Int}{x:Nat}(hk:0<=k):0<=tk n k s j i x/\tk n k s j i x<=k+1:=by
 unfold tk;split<;>exact xQ hk _ _
def q'(n:Nat)(f:Nat->Int)(j:Nat)(i:Int):Bool:=(List.range n).any λ(x:Nat)=>(decide (f x<f j) && decide (max ((x:Int)-(j:Int)) ((j:Int)-(x:Int))<=f j-f x)) && decide ((x:Int)<i)
theorem ahp{n:Nat}{f:Nat->Int}{j:Nat}{k i:Int}(hp:∀x,0<=f x)(bo:f j<=k)(ar:i=max ((j:Int)-k) 0):false=q' n f j i:=by
 symm;unfold q';rw[List.any_eq_false];intro x ag;have:=hp x;simp only[Bool.and_eq_true,decide_eq_true_eq,not_and];intro h;omega
theorem Wv{n:Nat}{f:Nat->Int}{j:Nat}{i:Int}{b:Bool}(ab:b=q' n f j i)(bK:0<=i)(aN:i<(n:Int)){c:Bool}(ao:c=(decide (f i.toNat<f j) && decide (max (i-(j:Int)) ((j:Int)-i)<=f j-f i.toNat))):(b || c)=q' n f j (i+1):=by
 rw[ab,Bool.eq_iff_iff];have ar:(i.toNat:Int)=i:=(by omega);unfold q';rw[Bool.or_eq_true,List.any_eq_true,List.any_eq_true];constructor
 . rintro(⟨x,ag,h⟩|h)
   . refine⟨x,ag,?_⟩;simp only[Bool.and_eq_true,decide_eq_true_eq] at h ⊢;omega
   . refine⟨i.toNat,List.mem_range.2 aa,?_⟩;rw[ao] at h;simp only[Bool.and_eq_true,decide_eq_true_eq] at h ⊢;rw[ar];omega
 . rintro⟨x,ag,h⟩;simp only[Bool.and_eq_true,decide_eq_true_eq] at h;by_cases I0:(x:Int)<i
   . left;refine⟨x,ag,?_⟩;simp only[Bool.and_eq_true,decide_eq_true_eq];omega
   . right;have:x=i.toNat:=by omega
     subst this;rw[ao,ar] at *;simp only[Bool.and_eq_true,decide_eq_true_eq];omega
theorem Ww{n:Nat}{f:Nat->Int}{j:Nat}{k i:Int}{b:Bool}(ab:b=q' n f j i)(hp:∀x,0<=f x)(bo:f j<=k)(ar:i>min ((j:Int)+k) ((n:Int)-1)):b=nm n k f j:=by
 rw[ab];unfold q' nm;rw[Bool.eq_iff_iff,List.any_eq_true,List.any_eq_true];constructor
 . rintro⟨x,ag,h⟩;rw[Bool.and_eq_true] at h;exact⟨x,ag,h.1⟩
 . rintro⟨x,ag,h⟩;refine⟨x,ag,?_⟩;have h1:=List.mem_range.1 ag;have:=hp x;rw[Bool.and_eq_true];refine⟨h,?_⟩;simp only[Bool.and_eq_true,decide_eq_true_eq] at h ⊢;omega
def stateT(n:Nat)(k:Int)(f:Nat->Int)(i:Nat):List Pos:=((List.range i).filter λ(j:Nat)=>decide (f j<=k) && !nm n k f j).map λ(j:Nat)=>Pos.mk (j:Int) (f j)
theorem ahq{n:Nat}{k:Int}{f:Nat->Int}{i:Nat}{l:List Pos}(h:l=stateT n k f i)(bB:f i>k):l=stateT n k f (i+1):=by
 rw[h];unfold stateT;rw[List.range_succ,List.filter_append,List.filter_cons_of_neg (by simp;omega)];simp
theorem ahr{n:Nat}{k:Int}{f:Nat->Int}{i:Nat}{l:List Pos}(h:l=stateT n k f i)(bB:true=nm n k f i):l=stateT n k f (i+1):=by
 rw[h];unfold stateT;rw[List.range_succ,List.filter_append,List.filter_cons_of_neg (by simp[<-bB])];simp
theorem ahs{n:Nat}{k:Int}{f:Nat->Int}{i:Nat}{l:List Pos}(h:l=stateT n k f i)(bB:¬ f i>k)(bj:false=nm n k f i){x:Int}(ag:x=f i):l++[Pos.mk (i:Int) x]=stateT n k f (i+1):=by
 rw[h,ag];unfold stateT;rw[List.range_succ,List.filter_append,List.filter_cons_of_pos (by simp[<-bj];omega)];simp
theorem aht(n:Nat)(k:Int)(f:Nat->Int)(i:Nat):(stateT n k f i).length<=i:=by
 unfold stateT;rw[List.length_map];exact Nat.le_trans (List.length_filter_le _ _) dg
theorem ahu(n:Nat)(k:Int)(f:Nat->Int):(fL n k f).length<=n:=aht n k f n
def r0(n:Nat)(k:Int)(q:List Int)(s:List Pos)(r:Int)(i:Nat)(x:Nat):Int:=if x<=i then fF k q (dY n k s) r x else dY n k s x
theorem ahv{n:Nat}{k:Int}{q:List Int}{s:List Pos}{r x:Int}(ag:(gq n (dY n k s))[0]?=some x):(gq n (dY n k s)).set 0 (min (x+1) (k+1))=gq n (r0 n k q s r 0):=by
 obtain⟨wE,hL⟩:=pf ag;refine IY hL ?_ λj bo dG=>?_
 . rw[wE];unfold r0;rw[if_pos (Nat.le_refl _)];rfl
 . unfold r0;rw[if_neg aa]
theorem Wx{n:Nat}{k:Int}{q:List Int}{s:List Pos}{r:Int}{i:Nat}(ar:i+1<n+1){a b c t:Int}(aw:(gq n (dY n k s))[i+1]?=some a)(ab:(gq n (r0 n k q s r i))[i]?=some b)(ao:(gq n (dY n k s))[i]?=some c)(a8:t=c+if q[i]?=some r then 0 else 1):
 (gq n (r0 n k q s r i)).set (i+1) (min (min (min (a+1) (b+1)) t) (k+1))=gq n (r0 n k q s r (i+1)):=by
 obtain⟨ahw,_⟩:=pf aw;obtain⟨ahx,_⟩:=pf ab;obtain⟨ahy,_⟩:=pf ao;refine IY ar ?_ λj bo dG=>?_
 . have e:b=fF k q (dY n k s) r i:=(by rw[ahx];unfold r0;rw[if_pos (Nat.le_refl _)]);unfold r0;rw[if_pos (Nat.le_refl _)];show _=min (min (min (dY n k s (i+1)+1) (fF k q (dY n k s) r i+1)) (dY n k s i+if q[i]?=some r then 0 else 1)) (k+1);rw[<-e,<-ahw,a8,ahy]
 . unfold r0;by_cases h:j<=i
   . rw[if_pos h,if_pos aa]
   . rw[if_neg h,if_neg aa]
theorem ahz{n:Nat}{k:Int}{q:List Int}{s:List Pos}{r:Int}{i:Nat}{l:List Int}(h:l=gq n (r0 n k q s r i))(ar:n<=i):l=gq n (fF k q (dY n k s) r):=by
 rw[h];refine Fo λj bo=>?_
 unfold r0;rw[if_pos aa]
theorem Nv{k:Int}(hk:0<=k){q:List Int}{f:Nat->Int}{r:Int}(h:∀i,0<=f i/\f i<=k+1):∀i,0<=fF k q f r i/\fF k q f r i<=k+1
 | 0=>by have:=h 0;unfold fF;omega
 | i+1=>by
  have h1:=h (i+1);have ah:=h i;have aB:=Nv (q:=q) (r:=r) hk h i
  unfold fF;split<;>omega
end Go.ak
namespace Go.ak
open Go.aH
theorem ahA{n:Nat}{f:Nat->Int}{j:Nat}{i:Int}(ab:true=q' n f j i)(bK:0<=i)(aN:i<(n:Int)):true=q' n f j (i+1):=by
 have:=Wv (c:=(decide (f i.toNat<f j) && decide (max (i-(j:Int)) ((j:Int)-i)<=f j-f i.toNat))) ab bK aN rfl;rw[Bool.true_or] at this;exact this
theorem Wy{n:Nat}{f:Nat->Int}{j:Nat}{i x:Int}{b:Bool}(ab:false=q' n f j i)(bK:0<=i)(aN:i<(n:Int))(ag:x=f i.toNat)(ao:(b=true/\x<f j/\max (i-(j:Int)) ((j:Int)-i)<=f j-x)\/(b=false/\¬ (x<f j/\max (i-(j:Int)) ((j:Int)-i)<=f j-x))):b=q' n f j (i+1):=by
 have:=Wv (c:=b) ab bK aN (by
  rw[<-ag]
  rcases ao with ⟨h,h1,ah⟩|⟨h,h1⟩
  . rw[h,decide_eq_true h1,decide_eq_true ah];rfl
  . rw[h]
    by_cases ah:x<f j
    . rw[decide_eq_true ah,decide_eq_false (λaB=>h1 ⟨ah,aB⟩)];rfl
    . rw[decide_eq_false ah];rfl)
 rw[Bool.false_or] at this;exact this
theorem Wz{n:Nat}{k:Int}{q:List Int}{r:Int}(hk:0<=k)(s:List Pos)(i x:Nat):0<=r0 n k q s r i x/\r0 n k q s r i x<=k+1:=by
 unfold r0;split
 . exact Nv hk (xQ hk s) x
 . exact xQ hk s x
theorem ahB{α:Type}{l:List α}{b:Bool}(h:b=((l.length:Int)==0)):b=l.isEmpty:=by
 rw[h];cases l<;>simp
 omega
end Go.ak
namespace Go.ak
open Go.aH
theorem ahC{n:Nat}{f:Nat->Int}{j:Nat}{i x y:Int}{b:Bool}(ab:false=q' n f j i)(bK:0<=i)(aN:i<(n:Int))(ag:x=f i.toNat)(aD:y=f j)(bj:x<y)(ao:b=decide (max (i-(j:Int)) ((j:Int)-i)<=y-x)):b=q' n f j (i+1):=by
 refine Wy ab bK aN ag ?_;subst aD
 cases b with
 | true=>exact .inl ⟨rfl,bj,of_decide_eq_true ao.symm⟩
 | false=>exact .inr ⟨rfl,λh=>(of_decide_eq_false ao.symm) h.2⟩
theorem ahD{n:Nat}{f:Nat->Int}{j:Nat}{i x y:Int}(ab:false=q' n f j i)(bK:0<=i)(aN:i<(n:Int))(ag:x=f i.toNat)(aD:y=f j)(bj:¬ x<y):false=q' n f j (i+1):=
 Wy ab bK aN ag (.inr ⟨rfl,λh=>bj (aD▸h.1)⟩)
end Go.ak
namespace Go.ak
open Go.aH
def vf(q:List Int)(d:Int)(w:aj):Bool:=decide (ve q (ea w)=d)
structure g_ where
 n:Nat
 x:List aj×List ca
 word:aj
def g_.p(z:g_):List Int:=ea z.word
def C5(q:List Int)(d:Int)(z:g_):List aj:=(z.x.1.map (z.word++·)).filter (vf q d)
def mJ(q:List Int)(d:Int)(S:List g_):List aj:=S.reverse.flatMap (C5 q d)
theorem I1{c:Nat}(ao:kO c)(w:aj)(hw:im w):ea (w++ei c)=ea w++[(c:Int)]:=by
 obtain⟨h1,ah⟩:=HT w hw
 have key:∀(rs:List Nat),(∀d∈rs,kO d)->hc (so rs++ei c)=rs++[c]:=by
  intro rs h
  have:so rs++ei c=so (rs++[c]):=by
   clear h
   induction rs with
   | nil=>simp[so]
   | cons a rs b'=>rw[aeR,List.append_assoc,b'];rfl
  rw[this]
  exact Tn _ λd hd=>by
   rcases List.mem_append.1 hd with hd|hd
   . exact h d hd
   . simp only[List.mem_singleton] at hd;subst hd;exact ao
 have:=key (hc w) ah;rw[h1] at this;unfold ea;rw[this,List.map_append];rfl
theorem Nw{c:Nat}(ao:kO c){w:aj}(hw:im w):im (w++ei c):=by
 unfold im;have h:=I1 ao w hw;intro hm;have:(65533:Int)∈ea (w++ei c):=List.mem_map.2 ⟨65533,hm,rfl⟩
 rw[h] at this;rcases List.mem_append.1 this with h1|h1
 . obtain⟨a,aw,he⟩:=List.mem_map.1 h1;have:a=65533:=by omega
   subst this;exact hw aw
 . simp only[List.mem_singleton] at h1;have:=ao.2.2;omega
theorem ahE:∀(t:aj),im t->∀(w:aj),im w->∃u,ea (w++t)=ea w++u/\im (w++t):=by
 intro t a8;refine L8 (p:=λt=>∀(w:aj),im w->∃u,ea (w++t)=ea w++u/\im (w++t)) ?_ ?_ t a8
 . intro w hw;exact⟨[],by simp,by simpa using hw⟩
 . intro c t ao _ b' w hw;obtain⟨u,h1,ah⟩:=b' (w++ei c) (Nw ao hw);rw[I1 ao w hw] at h1;rw[List.append_assoc] at h1 ah;exact⟨(c:Int)::u,by rw[h1];simp,ah⟩
theorem ahF{q:List Int}{d:Int}(hd:0<=d){w:aj}(hw:im w)(h:fr q d (ea w)=[]){l:List aj}(bj:∀t∈l,im t):(l.map (w++·)).filter (vf q d)=[]:=by
 rw[List.filter_eq_nil_iff];intro x ag;obtain⟨t,a8,rfl⟩:=List.mem_map.1 ag;obtain⟨u,h1,_⟩:=ahE t (bj t a8) w hw;have:=ahd (ahc hd h) u;unfold vf;rw[h1];simp only[decide_eq_true_eq];omega
def zg(q:List Int)(d:Int)(z:g_)(g:Nat×List aj):List aj:=(g.2.map ((z.word++ei g.1)++·)).filter (vf q d)
theorem ahG{q:List Int}{d:Int}{z:g_}(h:gu z.x.1):C5 q d z=(if jY z.x.1=true/\vf q d z.word=true then[z.word] else[])++(gZ (fE z.x.1)).flatMap (zg q d z):=by
 unfold C5;rw[TU h,List.filter_append];congr 1
 . by_cases bB:jY z.x.1=true
   . rw[if_pos bB];by_cases aN:vf q d z.word=true
     . rw[if_pos ⟨bB,aN⟩,List.filter_cons_of_pos aN];rfl
     . rw[if_neg (λh=>aN h.2),List.filter_cons_of_neg aN];rfl
   . rw[if_neg bB,if_neg (λh=>bB h.1)];rfl
 . unfold tc;rw[List.drop_zero,List.filter_flatMap];congr 1
   funext g;unfold zg;congr 1
   exact List.map_congr_left λt _=>by simp
def mK(q:List Int)(d:Int)(z:g_)(k:Nat):List aj:=((gZ (fE z.x.1)).drop k).flatMap (zg q d z)
theorem ahH{q:List Int}{d:Int}{z:g_}:mK q d z 0=(gZ (fE z.x.1)).flatMap (zg q d z):=by unfold mK;rw[List.drop_zero]
theorem ahI{q:List Int}{d:Int}{z:g_}{k:Nat}(h:(gZ (fE z.x.1)).length<=k):mK q d z k=[]:=by unfold mK;rw[List.drop_of_length_le h];rfl
theorem I2{q:List Int}{d:Int}{z:g_}{k:Nat}{g:Nat×List aj}(h:(gZ (fE z.x.1))[k]?=some g):mK q d z k=zg q d z g++mK q d z (k+1):=by
 unfold mK;rw[wu h,List.flatMap_cons]
theorem WA{q:List Int}{d:Int}{S:List g_}{z:g_}:mJ q d (S++[z])=C5 q d z++mJ q d S:=by
 unfold mJ;rw[List.reverse_append];simp
theorem ahJ{q:List Int}{d:Int}{S:List g_}{z y:g_}{g:Nat×List aj}(aD:y.x.1=g.2)(hw:y.word=z.word++ei g.1):mJ q d (S++[y])=zg q d z g++mJ q d S:=by
 rw[WA];congr 1
 unfold C5 zg;rw[aD,hw]
def uh(l:List aj):Nat:=1+(l.map λt=>(hc t).length).sum
def ra(S:List g_):Nat:=(S.map λz=>uh z.x.1).sum
theorem WB(S:List g_)(z:g_):ra (S++[z])=ra S+uh z.x.1:=by simp[ra]
theorem ahK(a b:List aj):((a++b).map λt=>(hc t).length).sum=(a.map λt=>(hc t).length).sum+(b.map λt=>(hc t).length).sum:=by simp
theorem ahL{c:Nat}(ao:kO c)(l:List aj):((l.map (ei c++·)).map λt=>(hc t).length).sum=l.length+(l.map λt=>(hc t).length).sum:=by
 induction l with
 | nil=>rfl
 | cons a l b' =>
  simp only[List.map_cons,List.sum_cons,List.length_cons];rw[b',wg ao];simp only[List.length_cons];omega
def wF(l:List (Nat×List aj)):Nat:=(l.map λg=>uh g.2).sum
theorem WC:∀(n:Nat) (l:List aj),l.length<=n->gu l->(∀s∈l,s≠[])->wF (gZ l)<=(l.map λt=>(hc t).length).sum
 | _,[],_,_,_=>by simp[AG,wF]
 | 0,_::_,h,_,_=>by simp at h
 | n+1,s::r,h,aU,aN=>by
  have aT:=aN s dg
  have bB:=aU.o9 s dg
  obtain⟨EC,q1,_⟩:=bB.split aT
  have ao:kO (ga s):=EC
  have hp:dA s=ei (ga s):=(yS aT ((yT aT).1 bB).1).2.symm
  have ahM:=EP (dA s) (s::r)
  have I3:=congrArg (λl:List aj=>(l.map λt=>(hc t).length).sum) ahM
  have ahN:(((eY (dA s) (s::r)).map (dA s++·)++l4 (dA s) (s::r)).map λt=>(hc t).length).sum=((s::r).map λt=>(hc t).length).sum:=I3
  replace I3:=ahN
  rw[ahK,hp,ahL ao] at I3
  have hm:=AF s r
  have hlen:1<=(eY (dA s) (s::r)).length:=by
   unfold eY
   rw[List.takeWhile_cons,if_pos (AE s)];simp
  have b':=WC n (l4 (dA s) (s::r)) (by simp only[List.length_cons] at h;omega) (aU.more _) λt a8=>aN t ((List.dropWhile_sublist _).subset a8)
  rw[Cu]
  unfold wF at b' ⊢
  rw[hp] at b' hlen ⊢
  simp only[List.map_cons,List.sum_cons]
  unfold uh at b' ⊢
  simp only[List.map_cons,List.sum_cons] at I3
  omega
theorem ahO{l:List aj}(h:gu l):wF (gZ (fE l))+1<=uh l:=by
 have hd:=u3 h;have:=WC _ _ (Nat.le_refl _) hd.1 hd.2
 have aT:((fE l).map λt=>(hc t).length).sum=(l.map λt=>(hc t).length).sum:=by
  cases l with
  | nil=>rfl
  | cons a r=>cases a with
   | nil=>simp[fE,xu]
   | cons b a=>rfl
 unfold uh;omega
def rb(l:List (Nat×List aj))(k:Nat):Nat:=wF (l.drop k)
theorem I4{l:List (Nat×List aj)}{k:Nat}{g:Nat×List aj}(h:l[k]?=some g):rb l k=uh g.2+rb l (k+1):=by
 unfold rb wF;rw[wu h];simp
theorem ahP(l:List (Nat×List aj)):rb l 0=wF l:=by unfold rb;rw[List.drop_zero]
theorem Fp(l:List aj):1<=uh l:=by unfold uh;omega
def p'(words:List aj)(q:List Int)(d:Int):List aj:=words.filter (vf q d)
theorem WD{q:List Int}{d:Int}{words:List aj}{es:List ca}{n:Nat}:mJ q d [⟨n,(words,es),[]⟩]=p' words q d:=by
 unfold mJ C5 p';simp
theorem ahQ{q:List Int}{d:Int}(hd:0<=d){w:aj}{D:Int}(j1:D=dY q.length d (fr q d (ea w)) q.length):(D<=d/\D=d)↔vf q d w=true:=by
 rw[ahe hd] at j1;unfold vf;rw[decide_eq_true_eq];omega
end Go.ak
set_option linter.unusedSectionVars false
namespace Go.aH
open Go
theorem Acc.cut{P:Program}{α:Type}{enc:α->List Value}{e:TypeId}{sz g:Nat}{w:World}{v:Value}{l:List α}{t:TypeId}{by_:Nat}{fR:Bool}{z:List Value}(h:Acc enc e sz w g v l)(a8:P.underlying t=some (.slice e))(he:ey P e=some (fR,sz,by_,z))(dI:∀x,(enc x).length=sz)
 {k:IntKind} {n:Int} (j:Nat) (aN:n=(j:Int)) (bo:j<=l.length):∃gQ,(∀w,(Instr.sliceAt t v none (some (.int k n)) none).run P w=.ok gQ w)/\Acc enc e sz w g gQ (l.take j):=by
 rcases h with ⟨h1,ah,aB⟩|⟨b,cap,cur,bK,h1,ah,aB,bE,c6,eZ⟩
 . subst ah;have Fq:j=0:=(by simpa using bo);subst Fq;refine⟨.slice none 0 0,λw=>?_,.inl ⟨rfl,rfl,aB⟩⟩;subst h1;simp[Instr.sliceAt,Instr.slice,Instr.sliceBounds,run_underlying a8,run_sizeOf he,tK (P:=P) (k:=k) _ aN (Nat.le_refl 0)]
 . refine⟨.slice (some ⟨b,0,none⟩) j cap,λw=>?_,.inr ⟨b,cap,cur,bK,by rw[List.length_take,Nat.min_eq_left bo],ah,by rw[List.length_take];omega,bE,c6,?_⟩⟩
   . subst h1;have ab:=λc w=>tK (P:=P) (k:=k) c aN (Nat.le_trans bo aB) w
     by_cases ao:cap=0
     . subst ao;have Fq:j=0:=(by omega);subst Fq;simp[Instr.sliceAt,Instr.slice,Instr.sliceBounds,run_underlying a8,run_sizeOf he,ab]
     . simp[Instr.sliceAt,Instr.slice,Instr.sliceBounds,run_underlying a8,run_sizeOf he,ab,ao,add_lit]
   . rw[List.length_take,Nat.min_eq_left bo,<-Sp dI,<-eZ,List.take_take,Nat.min_eq_left (Nat.mul_le_mul_right _ bo)]
theorem ht.A8{gt:TypeId}{w an:World}{c0 ar:Nat}{M:Nat->Prop}{v:Value}{N:List cw}(h:ht gt w c0 ar v N)(hm:Mod M w an)(hd:∀b,c0<=b->b<ar->¬ M b):ht gt an c0 ar v N:=by
 rcases h with h|⟨b,gJ,bn,h1,ah,aB,bE,c6⟩
 . exact .inl h
 . exact .inr ⟨b,gJ,bn,h1,ah,⟨aB.1,aB.2.1,aB.2.2.keep hm (hd b aB.1 aB.2.1)⟩,bE.keep hm λb ab=>hd b ab.1 ab.2,c6.keep hm λb ab=>hd b ab.1 ab.2⟩
structure WE(P:Program){b3:Type}(kP:FuncId)(first cap:List Value)(A:b3->dk (λ_=>False))(ok:b3->aj->Prop)(f:b3->aj->b3×Bool):Prop where
 cl:b7 P kP=true
 call:∀s F w x,(A s).p F w->(∀b,F b->b<w.heap.size)->ok s x->Calls P kP (first++[aE x]++cap).toArray w (al λaC an=>aC=.bool (f s x).2/\Mod F w an/\∃F',(A (f s x).1).p F' an/\∀b,F' b->b<an.heap.size/\(F b\/w.heap.size<=b))
section
variable {R bS:Nat->Prop} {w0 w an:World} {L:List (dk R)} {i j:Nat} {α:Type} {enc:α->List Value}
theorem au.Fs{vs:List (Value×List α)}{v:Value}{l:List α}(h:au R bS w0 w L)(ar:L[i]?=some (fa enc vs))(hm:(v,l)∈vs):aq enc w (dq 0 w.heap.size) v l:=by
 obtain⟨k,hk,he⟩:=List.getElem_of_mem hm;exact h.ch ar (List.getElem?_eq_some_iff.2 ⟨hk,he⟩)
theorem I5{V Ft:List (Value×List α)}{F:Nat->Prop}(h:(bk (R:=R) [fa enc V,fa enc Ft]).p F w):(fa (R:=R) enc (V++Ft)).p F w:=by
 obtain⟨fe,h1,ah,_⟩:=h;intro x ag;rcases List.mem_append.1 ag with ag|ag
 . exact(h1 0 _ rfl x ag).mono λb ab=>ab.imp (λh=>(ah 0 b h).1.1) id
 . exact(h1 1 _ rfl x ag).mono λb ab=>ab.imp (λh=>(ah 1 b h).1.1) id
end
structure hx where
 node:Int
 st:cK
 word:aj
def re(x:hx):List Value:=[.int .i64 x.node,x.st.val,aE x.word]
theorem A9(x:hx):(re x).length=3:=rfl
theorem I6(x:hx):(re x).all (·.oneCell')=true:=rfl
open ak
structure nR(q:List Int)(d:Int)(s:c5)(V:List (Value×List Pos))(p:hx)(z:g_):Prop where
 node:p.node=(z.n:Int)
 word:p.word=z.word
 st:(p.st.val,fr q d (ea z.word))∈V
 ahR:nodeAt (fT s) (z.n:Int)=(jY z.x.1,z.x.2)
 wi:o_ s z.x
 fO:gu z.x.1
 o9:im z.word
 lt:z.n<=1000000
 deep:∃e,Deep e z.x.1/\z.word.length+4*e<=48
theorem nR.mono{q:List Int}{d:Int}{s:c5}{V Ft:List (Value×List Pos)}{p:hx}{z:g_}(h:nR q d s V p z)(Ax:∀x∈V,x∈Ft):nR q d s Ft p z:={ h with st:=Ax _ h.st }
theorem nR.start{q:List Int}{d:Int}(hd:0<=d){s:c5}{words:List aj}{es:List ca}{sh:cK}{v:Value}(cI:v=sh.val)(qa:nodeAt (fT s) 0=(jY words,es))(ao:o_ s (words,es))(aU:gu words)(IH:Deep 12 words):
 cZ (nR q d s [(v,[⟨0,0⟩])]) [hx.mk 0 sh []] [⟨0,(words,es),[]⟩]:=
 .cons ⟨rfl,rfl,by rw[cI,show ea ([]:aj)=[] from rfl,ag' hd];simp,qa,ao,aU,by simp[im,xu],by simp,12,IH,by simp⟩ .nil
theorem cZ.snoc{α β:Type}{R:α->β->Prop}{l:List α}{m:List β}{a:α}{b:β}(h:cZ R l m)(mG:R a b):cZ R (l++[a]) (m++[b]):=by
 induction h with
 | nil=>exact .cons mG .nil
 | cons x _ b'=>exact .cons x b'
theorem cZ.pop{α β:Type}{R:α->β->Prop}:∀{l:List α} {m:List β} {n:Nat} {a:α},cZ R l m->l[n]?=some a->n+1=l.length->∃m1 b,m=m1++[b]/\cZ R (l.take n) m1/\R a b
 | _,_,n,a,.nil,ag,_=>by simp at ag
 | _,_,0,a,.cons (l:=l) (m:=m) mG h,ag,aN=>by
  have:l=[]:=List.eq_nil_of_length_eq_zero (by simp only[List.length_cons] at aN;omega)
  subst this
  cases h
  simp only[List.getElem?_cons_zero,Option.some.injEq] at ag
  subst ag
  exact⟨[],_,rfl,.nil,mG⟩
 | _,_,n+1,a,.cons (l:=l) (m:=m) mG h,ag,aN=>by
  obtain⟨m1,b,h1,ah,aB⟩:=cZ.pop h uV (by simp only[List.length_cons] at aN;omega)
  exact⟨_::m1,b,by rw[h1];rfl,.cons mG ah,aB⟩
theorem nR.pop{q:List Int}{d:Int}{s:c5}{V:List (Value×List Pos)}{hq:List hx}{nG:List g_}{n:Nat}{x:hx}(h:cZ (nR q d s V) hq nG)(ag:hq[n]?=some x)(aN:n+1=hq.length):
 ∃mr z sh,nG=mr++[z]/\x=hx.mk (z.n:Int) sh z.word/\cZ (nR q d s V) (hq.take n) mr/\(sh.val,fr q d (ea z.word))∈V/\nodeAt (fT s) (z.n:Int)=(jY z.x.1,z.x.2)/\o_ s z.x/\gu z.x.1/\im z.word/\z.n<=1000000/\∃e,Deep e z.x.1/\z.word.length+4*e<=48:=by
 obtain⟨mr,z,h1,ah,aB⟩:=cZ.pop h ag aN;refine⟨mr,z,x.st,h1,?_,ah,aB.st,aB.ahR,aB.wi,aB.fO,aB.o9,aB.lt,aB.deep⟩;rw[<-aB.node,<-aB.word]
theorem nR.push{q:List Int}{d:Int}(hd:0<=d){s:c5}{V:List (Value×List Pos)}{hq:List hx}{nG:List g_}(h:cZ (nR q d s V) hq nG)(dI:s.length<=1000000)(l_:∀y∈s,o_ s y/\gu y.1/\Deep 12 y.1){w:aj}(hw:im w){g:Nat×List aj}{j:Nat}{es:List ca}{r:Int}{sh:cK}{L:List Pos}{wd:aj}{vg:Nat}
 (lM:r=(g.1:Int)) (bo:s[j]?=some (g.2,es)) (aU:kO g.1) (k1:L=fL (q.length+1) d (fF d q (dY q.length d (fr q d (ea w))) r)) (Nx:wd=w++ei g.1) (tl:Deep vg g.2) (hlen:w.length+4*(vg+1)<=48) {to:Int} (qB:to=(j:Int)) :
 cZ (nR q d s (V++[(sh.val,L)])) (hq++[hx.mk to sh wd]) (nG++[⟨j,(g.2,es),w++ei g.1⟩]):=by
 have aN:=l_ _ (List.mem_of_getElem? bo);have bE:=xC g.1;refine cZ.snoc (h.imp λa b mG=>mG.mono λx ag=>by simp[ag]) ⟨qB,Nx,?_,AR bo,aN.1,aN.2.1,Nw aU hw,by have:=(List.getElem?_eq_some_iff.1 bo).1;simp only;omega,vg,tl,by simp only[List.length_append];omega⟩;rw[k1,lM,Ws hd,<-I1 aU w hw];simp
theorem C6:∀{hq:List hx} {nG:List g_} {R:hx->g_->Prop},cZ R hq nG->hq.length<=ra nG
 | _,_,_,.nil=>by simp
 | _,_,_,.cons (b:=b) (m:=m) _ h=>by
  have:=C6 h
  have h1:=Fp b.x.1
  simp only[List.length_cons,ra,List.map_cons,List.sum_cons] at this ⊢
  omega
end Go.aH
namespace Go.ak
open Go.aH
section
variable {b3:Type} {f:b3->aj->b3×Bool} {ok:b3->aj->Prop} {dB ew:b3} {L E T:List aj} {w:aj} {P:Prop} [Decidable P]
theorem Ny(h:fp f dB L=fp f ew (((if P then[w] else[])++E)++T))(hp:¬ P):fp f dB L=fp f ew (E++T):=by rw[if_neg hp] at h;exact h
theorem Nz(h:l6 ok f ew (((if P then[w] else[])++E)++T))(hp:¬ P):l6 ok f ew (E++T):=by rw[if_neg hp] at h;exact h
theorem ahS(h:fp f dB L=fp f ew (((if P then[w] else[])++E)++T))(hp:P)(aD:(f ew w).2=true):fp f dB L=fp f (f ew w).1 (E++T):=by
 rw[if_pos hp,List.append_assoc] at h;rw[h];exact Ms aD
theorem WG(h:fp f dB L=fp f ew (((if P then[w] else[])++E)++T))(hp:P)(aD:(f ew w).2=false):fp f dB L=((f ew w).1,false):=by
 rw[if_pos hp,List.append_assoc] at h;rw[h];exact u5 aD
theorem ahT(h:l6 ok f ew (((if P then[w] else[])++E)++T))(hp:P):ok ew w:=by
 rw[if_pos hp,List.append_assoc] at h;exact h.1
theorem ahU(h:l6 ok f ew (((if P then[w] else[])++E)++T))(hp:P)(aD:(f ew w).2=true):l6 ok f (f ew w).1 (E++T):=by
 rw[if_pos hp,List.append_assoc] at h;exact h.2 aD
end
theorem Fu{D d:Int}(h:decide (D<=d)=true)(ah:(if D>d then 0 else D)=d):D<=d/\D=d:=by
 have:=of_decide_eq_true h;rw[if_neg aa] at ah;exact⟨this,ah⟩
theorem C7{D d:Int}(ah:¬ (if D>d then 0 else D)=d)(ao:D<=d/\D=d):False:=by rw[if_neg aa] at ah;exact ah ao.2
theorem C8{D d:Int}(h:decide (D<=d)=false)(ao:D<=d/\D=d):False:=(of_decide_eq_false h) ao.1
theorem ahV{s:c5}{q:List Int}{d:Int}(hd:0<=d){z:g_}{g:Nat×List aj}{j:Nat}{es:List ca}{r:Int}{L:List Pos}(bB:im z.word)(lM:r=(g.1:Int))(aU:kO g.1)(bo:s[j]?=some (g.2,es))(l_:∀y∈s,o_ s y/\gu y.1/\Deep 12 y.1)
 (k1:L=fL (q.length+1) d (fF d q (dY q.length d (fr q d (ea z.word))) r)) (ahW:L.isEmpty=true):zg q d z g=[]:=by
 have aN:=l_ _ (List.mem_of_getElem? bo);rw[lM,Ws hd,<-I1 aU z.word bB] at k1;have he:L=[]:=List.isEmpty_iff.1 ahW;rw[he] at k1;exact ahF hd (Nw aU bB) k1.symm aN.2.1.o9
end Go.ak
namespace Go.ak
open Go.aH
theorem WH{q:List Int}{d:Int}{z:g_}{i:Int}(h:i<0):mK q d z (i+1).toNat=mK q d z 0:=by rw[show(i+1).toNat=0 from by omega]
theorem NA{l:List (Nat×List aj)}{i:Int}(h:i<0):rb l (i+1).toNat=wF l:=by rw[show(i+1).toNat=0 from by omega,ahP]
theorem WI{q:List Int}{d:Int}{z:g_}{i:Int}{X:List aj}(h:0<=i)(ag:mK q d z i.toNat=X++mK q d z (i.toNat+1)):mK q d z (i-1+1).toNat=X++mK q d z (i+1).toNat:=by
 rw[show(i-1+1).toNat=i.toNat from by omega,show(i+1).toNat=i.toNat+1 from by omega];exact ag
theorem WJ{l:List (Nat×List aj)}{i:Int}{x:Nat}(h:0<=i)(ag:rb l i.toNat=x+rb l (i.toNat+1)):rb l (i-1+1).toNat=x+rb l (i+1).toNat:=by
 rw[show(i-1+1).toNat=i.toNat from by omega,show(i+1).toNat=i.toNat+1 from by omega];exact ag
theorem ahX{s:c5}{x:List aj×List ca}(ao:o_ s x):(gZ (fE x.1)).length=x.2.length:=(cZ.get ao).1
theorem WK{q:List Int}{d:Int}{s:c5}{V:List (Value×List Pos)}{hq:List hx}{nG:List g_}(h:cZ (nR q d s V) hq nG)(hp:hq.length=0):nG=[]:=by
 have:=(cZ.get h).1;exact List.eq_nil_of_length_eq_zero aa
end Go.ak
namespace Go.ak
open Go.aH
theorem I7(l:List (Nat×List aj))(k:Nat):rb l k<=wF l:=by
 unfold rb wF
 conv=>rhs;rw[<-List.take_append_drop k l]
 rw[List.map_append,List.sum_append];omega
end Go.ak
namespace Go.ak
open Go.aH
structure b1 where
 ck:Int
 word:aj
deriving DecidableEq
def eJ(x:b1):List Value:=[.int .i64 x.ck,aE x.word]
theorem oN(x:b1):(eJ x).length=2:=rfl
theorem wG(x:b1):(eJ x).all (·.oneCell')=true:=rfl
structure b1.Ok(x:b1):Prop where
 ck:bY x.ck
 word:x.word.length<=maxLen
def NB(a b:b1):Int:=oF [pA a.ck b.ck,Lib.compareBytes a.word b.word]
def oo(a b:b1):Bool:=decide (NB a b<0)
def pJ(g:List cw)(s:aj)(k:Int):Bool:=(!g.isEmpty) && decide (0<=k/\k<=4) && asked s
def ji(g:List cw)(s:aj)(k:Int):List Int:=if pJ g s k=true then ea s else[]
theorem WL{s:aj}{k:Int}:pJ [] s k=false:=rfl
theorem WM{g:List cw}{s:aj}{k:Int}(h:k<0\/k>4):pJ g s k=false:=by unfold pJ;rw[decide_eq_false aa];simp
theorem WN{g:List cw}{s:aj}{k:Int}(h:asked s=false):pJ g s k=false:=by unfold pJ;rw[h];simp
theorem I8{g:List cw}{s:aj}{k:Int}(aU:g≠[])(hk:0<=k/\k<=4)(h:asked s=true):pJ g s k=true:=by
 unfold pJ;rw[h,decide_eq_true hk];cases g<;>simp at *
theorem A_{g:List cw}{s:aj}{k:Int}:pJ g s k=true↔g≠[]/\(0<=k/\k<=4)/\asked s=true:=by
 constructor
 . intro h;unfold pJ at h;simp only[Bool.and_eq_true,decide_eq_true_eq,Bool.not_eq_true',List.isEmpty_eq_false_iff] at h;exact⟨h.1.1,h.1.2,h.2⟩
 . rintro⟨h1,ah,aB⟩;exact I8 h1 ah aB
theorem I9{s:aj}(h:asked s=true):jX s=true:=by
 unfold asked at h;simp only[Bool.and_eq_true,decide_eq_true_eq] at h;have:=h.1;unfold iP at this;unfold jX;split at this
 . omega
 . exact decide_eq_true bh
theorem ahY{g:List cw}{s:aj}{k:Int}(h:pJ g s k=false):([]:List Int)=ji g s k:=by unfold ji;rw[h];rfl
theorem ahZ{g:List cw}{s:aj}{k:Int}(h:pJ g s k=true):jE s=ji g s k:=by
 unfold ji;rw[if_pos h,jE,if_pos (I9 (A_.1 h).2.2)]
theorem ah0{g:List cw}{s:aj}{k:Int}(h:pJ g s k=true):ji g s k=ea s:=by unfold ji;rw[if_pos h]
theorem ah1{s:aj}(h:asked s=true):(ea s).length<=16:=by
 have bB:=I9 h;unfold asked at h;simp only[Bool.and_eq_true,decide_eq_true_eq] at h;unfold iP at h;unfold jX at bB;rw[if_neg (of_decide_eq_true bB)] at h;unfold ea;rw[List.length_map];omega
theorem ah2(g:List cw)(s:aj)(k:Int):(ji g s k).length<=16:=by
 unfold ji;split
 . exact ah1 (A_.1 bh).2.2
 . simp
theorem WO(words:List aj)(q:List Int)(d:Int):(p' words q d).length<=words.length:=List.length_filter_le _ _
theorem ah3{words:List aj}(hd:Deep 12 words)(bj:words.length<=1000):uh words<=500000:=by
 have:(words.map λt=>(hc t).length).sum<=words.length*12:=by
  clear bj
  induction words with
  | nil=>simp
  | cons a l b' =>
   have h1:=hd a dg
   have ah:=b' λt a8=>hd t (by simp[a8])
   simp only[List.map_cons,List.sum_cons,List.length_cons]
   omega
 unfold uh;omega
def mu(first:Bool)(after:b1)(batch d:Int)(s:List b1×Bool)(w:aj):(List b1×Bool)×Bool:=
 if first=false/\oo after ⟨d,w⟩=false then(s,!s.2)
 else if (s.1.length:Int)=batch then((s.1,true),false)
 else((s.1++[⟨d,w⟩],s.2),!s.2)
def NC(words:List aj)(q:List Int)(first:Bool)(after:b1)(batch:Int)(d:Nat):List b1×Bool->List b1×Bool:=λs=>(fp (mu first after batch d) s (p' words q d)).1
def iD(words:List aj)(q:List Int)(first:Bool)(after:b1)(batch:Int):Nat->List b1×Bool
 | 0=>([],false)
 | d+1=>let s:=iD words q first after batch d;if s.2=true then s else NC words q first after batch d s
def pK(g:List cw)(words:List aj)(s:aj)(k:Int)(first:Bool)(after:b1)(batch:Int):List b1×Bool:=
 if pJ g s k=true then((iD words (ea s) first after (max batch 0) (k.toNat+1)).1,!(iD words (ea s) first after (max batch 0) (k.toNat+1)).2) else([],true)
end Go.ak
namespace Go.aH
open Go Go.ak
theorem ah4{F bS:Nat->Prop}{w0 w:World}{R:Nat->Prop}{ar:Nat}(h:∀b,F b->((bS b\/w0.heap.size<=b)/\¬ R b)/\b<w.heap.size)(bs:∀b,bS b->False)(p3:ar<=w0.heap.size){c0:Nat}:∀b,c0<=b->b<ar->¬ F b:=λb _ ah ab=>by
 rcases(h b ab).1.1 with aB|aB
 . exact bs b aB
 . omega
end Go.aH
namespace Go.ak
open Go.aH
theorem WQ{g:List cw}{words:List aj}{s:aj}{k batch:Int}{first:Bool}{after:b1}(h:pJ g s k=false):pK g words s k first after batch=([],true):=by unfold pK;rw[h];rfl
end Go.ak
namespace Go.ak
open Go.aH
theorem xR{after:b1}{batch d:Int}{s:List b1×Bool}{w:aj}(h:oo after ⟨d,w⟩=false):mu false after batch d s w=(s,!s.2):=by unfold mu;rw[if_pos ⟨rfl,h⟩]
theorem xS{first:Bool}{after:b1}{batch d:Int}{s:List b1×Bool}{w:aj}(h:first=true\/oo after ⟨d,w⟩=true)(ab:(s.1.length:Int)=batch):mu first after batch d s w=((s.1,true),false):=by
 unfold mu;rw[if_neg (by rintro⟨h1,ah⟩;rcases h with h|h<;>simp_all),if_pos ab]
theorem xT{first:Bool}{after:b1}{batch d:Int}{s:List b1×Bool}{w:aj}(h:first=true\/oo after ⟨d,w⟩=true)(ab:¬ (s.1.length:Int)=batch):mu first after batch d s w=((s.1++[⟨d,w⟩],s.2),!s.2):=by
 unfold mu;rw[if_neg (by rintro⟨h1,ah⟩;rcases h with h|h<;>simp_all),if_neg ab]
theorem WR(first:Bool)(after:b1)(batch d:Int)(s:List b1×Bool)(w:aj):(mu first after batch d s w).1.1.length<=s.1.length+1:=by
 unfold mu;split
 . simp
 . split
   . simp
   . simp
theorem WS(first:Bool)(after:b1)(batch d:Int)(m:Nat):∀(L:List aj) (s:List b1×Bool),s.1.length+L.length<=m->l6 (λ(s:List b1×Bool) (_:aj)=>s.1.length<=m) (mu first after batch d) s L
 | [],s,_=>trivial
 | x::L,s,h=>⟨by simp only[List.length_cons] at h;omega,λ_=>WS first after batch d m L _ (by
  have:=WR first after batch d s x
  simp only[List.length_cons] at h;omega)⟩
theorem WT(first:Bool)(after:b1)(batch d:Int):∀(L:List aj) (s:List b1×Bool),(fp (mu first after batch d) s L).1.1.length<=s.1.length+L.length
 | [],s=>by simp[fp]
 | x::L,s=>by
  have h1:=WR first after batch d s x
  have ah:=WT first after batch d L (mu first after batch d s x).1
  unfold fp
  split
  . simp only[List.length_cons];omega
  . simp only[List.length_cons];omega
theorem ND(words:List aj)(q:List Int)(first:Bool)(after:b1)(batch:Int):∀d,(iD words q first after batch d).1.length<=d*words.length
 | 0=>by simp[iD]
 | d+1=>by
  have b':=ND words q first after batch d
  unfold iD
  simp only
  split
  . rw[Nat.succ_mul];omega
  . have h1:=WT first after batch d (p' words q d) (iD words q first after batch d)
    have ah:=WO words q d
    unfold NC
    rw[Nat.succ_mul];omega
theorem ah5{words:List aj}{q:List Int}{first:Bool}{after:b1}{batch:Int}{d:Nat}(h:false=(iD words q first after batch d).2):(fp (mu first after batch d) (iD words q first after batch d) (p' words q d)).1=iD words q first after batch (d+1):=by
 conv=>rhs;unfold iD
 simp only;rw[<-h];rfl
theorem WU{words:List aj}{q:List Int}{first:Bool}{after:b1}{batch:Int}{n:Nat}(h:(iD words q first after batch n).2=true):∀m,iD words q first after batch (n+m)=iD words q first after batch n
 | 0=>rfl
 | m+1=>by
  have b':=WU h m
  rw[<-Nat.add_assoc]
  conv=>lhs;unfold iD
  simp only
  rw[b',if_pos h]
theorem NF{g:List cw}{words:List aj}{s:aj}{k batch:Int}{first:Bool}{after:b1}(hm:pJ g s k=true){n:Nat}(h:(iD words (ji g s k) first after (max batch 0) n).2=true/\(n:Int)<=k+1\/(n:Int)=k+1):
 pK g words s k first after batch=((iD words (ji g s k) first after (max batch 0) n).1,!(iD words (ji g s k) first after (max batch 0) n).2):=by
 have hk:=(A_.1 hm).2.1;unfold pK;rw[if_pos hm,<-ah0 hm];rcases h with ⟨h,aN⟩|h
 . have:=WU h (k.toNat+1-n);rw[show n+(k.toNat+1-n)=k.toNat+1 from by omega] at this;rw[this]
 . rw[show n=k.toNat+1 from by omega]
theorem WV{g:List cw}{words:List aj}{s:aj}{k batch:Int}{first:Bool}{after:b1}(hm:pJ g s k=true){n:Nat}(h:(iD words (ji g s k) first after (max batch 0) n).2=true/\(n:Int)<=k+1\/(n:Int)=k+1){b:Bool}(ab:(iD words (ji g s k) first after (max batch 0) n).2=b):
 (!b)=(pK g words s k first after batch).2:=by rw[NF hm h,ab]
theorem ah6{g:List cw}{words:List aj}{s:aj}{k batch:Int}{first:Bool}{after:b1}:(pK g words s k first after batch).1.length<=5*words.length:=by
 unfold pK;split
 . have hk:=(A_.1 bh).2.1;have:=ND words (ea s) first after (max batch 0) (k.toNat+1)
   have ah:(k.toNat+1)*words.length<=5*words.length:=Nat.mul_le_mul_right _ aa;simp only;omega
 . simp
end Go.ak
namespace Go.aH
open Go Go.ak
def qC{R:Nat->Prop}(rO e tb:TypeId)(e7 e8:Nat)(s:List b1×Bool):dk R:=nK λv:Value=>bk [ax e7 [v] rO,aS eJ e 2 v s.1,ax e8 [.bool s.2] tb]
end Go.aH
namespace Go.ak
open Go.aH
theorem WW{α:Type}{p:List α->Prop}(bK:p [])(h1:∀l a,p l->p (l++[a])):∀l,p l:=by
 intro l;rw[<-List.reverse_reverse l];generalize l.reverse=r
 induction r with
 | nil=>exact bK
 | cons a r b'=>rw[List.reverse_cons];exact h1 _ _ b'
def rf(a b:List Int):List (List Int):=(List.range (a.length+1)).map λi=>gq b.length (hR b (a.take i))
theorem NG(a b:List Int):(rf a b).length=a.length+1:=by simp[rf]
theorem WX{a b:List Int}{i:Nat}{l:List Int}(h:(rf a b)[i]?=some l):l=gq b.length (hR b (a.take i)):=by
 obtain⟨ar,h1⟩:=List.getElem?_eq_some_iff.1 h;rw[NG] at ar;unfold rf at h;rw[List.getElem?_map,List.getElem?_range ar] at h;simpa using h.symm
theorem NH{a b:List Int}{n i:Nat}{l:List Int}(h:((rf a b).take n)[i]?=some l):l=gq b.length (hR b (a.take i))/\i<n:=by
 rw[List.getElem?_take] at h;split at h
 . exact⟨WX h,by assumption⟩
 . cases h
theorem ah7{a b:List Int}{i:Nat}{l:List Int}(ar:i<=a.length)(bj:l=gq b.length (hR b (a.take i))):(rf a b).take i++[l]=(rf a b).take (i+1):=by
 rw[List.take_add_one];congr 1
 unfold rf;rw[List.getElem?_map,List.getElem?_range aa,bj];rfl
theorem ah8{n k:Nat}{f:Nat->Int}{l:List Int}{d:Int}(h:l=(gq n f).take k)(hk:k<=n)(hd:d=f k):l++[d]=(gq n f).take (k+1):=by
 rw[List.take_add_one,h,hd];congr 1
 unfold gq;rw[List.getElem?_map,List.getElem?_range aa];rfl
theorem ah9{n k:Nat}{f:Nat->Int}{l:List Int}(h:l=(gq n f).take k)(hk:n<k):l=gq n f:=by
 rw[h,List.take_of_length_le (by rw[xP];omega)]
theorem WY{n k i:Nat}{f:Nat->Int}{x:Int}(h:((gq n f).take k)[i]?=some x):x=f i:=by
 rw[List.getElem?_take] at h;split at h
 . exact(pf h).1
 . cases h
theorem WZ(q p:List Int):hR q p 0=p.length:=by
 refine WW (p:=λp=>hR q p 0=p.length) rfl (λp r b'=>?_) p;rw[IV];unfold nQ;rw[b'];simp
theorem C9(q p:List Int)(i:Nat):0<=hR q p i/\hR q p i<=p.length+i:=by
 have h:=Wm q p;have h1:=h.pos i;have ah:=IW h i 0;rw[WZ] at ah;constructor<;>omega
theorem ah_{a b:List Int}{i k:Nat}(ar:i=0):(k:Int)=hR b (a.take i) k:=by subst ar;rfl
theorem ah'{a b:List Int}{i k:Nat}(hk:k=0)(ar:i<=a.length):(i:Int)=hR b (a.take i) k:=by subst hk;rw[WZ,List.length_take,Nat.min_eq_left ar]
theorem W0{a b:List Int}{i k j m:Nat}(bo:j+1=i)(hm:m+1=k){r c x y z t:Int}(a':a[j]?=some r)(ao:b[m]?=some c)(ag:x=hR b (a.take j) m)(aD:y=hR b (a.take j) k)(cO:z=hR b (a.take i) m)(a8:t=x+if r≠c then 1 else 0):
 min (min t (y+1)) (z+1)=hR b (a.take i) k:=by
 subst bo hm;have h1:a.take (j+1)=a.take j++[r]:=(by rw[List.take_add_one,a'];rfl);rw[h1,IV] at cO ⊢;show _=min (min (hR b (a.take j) (m+1)+1) (nQ b (hR b (a.take j)) r m+1)) (hR b (a.take j) m+if b[m]?=some r then 0 else 1);rw[<-ag,<-aD,<-cO,ao];by_cases he:r=c
 . rw[if_neg (by simp[he])] at a8;rw[if_pos (by rw[he])];omega
 . rw[if_pos he] at a8;rw[if_neg (by simp;exact λe=>he e.symm)];omega
theorem aia{a b:List Int}{i j:Nat}(ar:i=a.length)(bo:j=b.length){l:List Int}{x:Int}(bj:l=gq b.length (hR b (a.take i)))(ag:l[j]?=some x):x=ve b a:=by
 subst ar bo;rw[bj] at ag;rw[(pf ag).1,List.take_length];rfl
theorem NI(q p:List Int):0<=ve q p/\ve q p<=p.length+q.length:=C9 q p q.length
def mv(a b:aj):Int:=if jX a=true/\jX b=true then ve (ea b) (ea a) else -1
theorem aib{a b:aj}(h:jX a=false\/jX b=false):(-1:Int)=mv a b:=by
 unfold mv;rw[if_neg];rintro⟨h1,ah⟩;rcases h with h|h<;>simp_all
theorem aic{a b:aj}(h1:jX a=true)(ah:jX b=true):ve (jE b) (jE a)=mv a b:=by
 unfold mv jE;rw[if_pos h1,if_pos ah,if_pos ⟨h1,ah⟩]
theorem xU{a b:b1}:oo a b=true↔a.ck<b.ck\/a.ck=b.ck/\Lib.compareBytes a.word b.word<0:=by
 unfold oo NB;rw[decide_eq_true_eq]
 have I_:oF [pA a.ck b.ck,Lib.compareBytes a.word b.word]=if pA a.ck b.ck≠0 then pA a.ck b.ck else Lib.compareBytes a.word b.word:=by
  simp only[oF]
  split
  . rfl
  . split
    . rfl
    . omega
 rw[I_];unfold pA;by_cases h1:a.ck<b.ck
 . simp[h1]
 . by_cases ah:a.ck>b.ck
   . simp[h1,ah];omega
   . have:a.ck=b.ck:=by omega
     simp[this]
def qD(a b:b1):Prop:=oo a b=true
theorem W1{a b c:b1}(h1:qD a b)(ah:qD b c):qD a c:=by
 unfold qD at *;rw[xU] at *;rcases h1 with h1|⟨h1,aid⟩<;>rcases ah with ah|⟨ah,II⟩
 . exact .inl aa
 . exact .inl aa
 . exact .inl aa
 . exact .inr ⟨by omega,lt_trans aid II⟩
theorem NJ{a:b1}(h:qD a a):False:=by
 unfold qD at h;rw[xU] at h;rcases h with h|⟨_,h⟩
 . omega
 . rw[EL] at h;omega
theorem aie{a b:b1}(h:¬ qD a b)(dG:a≠b):qD b a:=by
 unfold qD at *;rw[xU] at *;have h1:¬ a.ck<b.ck:=λx=>h (.inl x)
 by_cases ah:b.ck<a.ck
 . exact .inl ah
 . have he:b.ck=a.ck:=(by omega);refine .inr ⟨he,?_⟩;have aB:¬ Lib.compareBytes a.word b.word<0:=λx=>h (.inr ⟨he.symm,x⟩)
   have bE:Lib.compareBytes a.word b.word≠0:=λe=>dG (by
    cases a;cases b
    simp only at *
    rw[he,cmp_eq e])
   exact adw aB λe=>bE (by rw[e];exact EL _)
theorem W2:∀{a b:List b1},a.Pairwise qD->b.Pairwise qD->(∀x,x∈a↔x∈b)->a=b
 | [],[],_,_,_=>rfl
 | [],y::b,_,_,h=>by have:=(h y).2 dg;simp at this
 | x::a,[],_,_,h=>by have:=(h x).1 dg;simp at this
 | x::a,y::b,aw,ab,h=>by
  rw[List.pairwise_cons] at aw ab
  have Cv:x=y:=by
   by_cases e:x=y
   . exact e
   . exfalso
     have h1:=(h x).1 dg
     have ah:=(h y).2 dg
     rcases List.mem_cons.1 h1 with h1|h1
     . exact e h1
     . rcases List.mem_cons.1 ah with ah|ah
       . exact e ah.symm
       . exact NJ (W1 (aw.1 y ah) (ab.1 x h1))
  subst Cv
  congr 1
  refine W2 aw.2 ab.2 λz=>?_
  constructor
  . intro cO
    rcases List.mem_cons.1 ((h z).1 (by simp[cO])) with e|e
    . subst e;exact(NJ (aw.1 _ cO)).elim
    . exact e
  . intro cO
    rcases List.mem_cons.1 ((h z).2 (by simp[cO])) with e|e
    . subst e;exact(NJ (ab.1 _ cO)).elim
    . exact e
def pg(x:b1):List b1->List b1
 | []=>[x]
 | y::r=>if oo x y=true then x::y::r else y::pg x r
theorem Fv{x y:b1}:∀{l:List b1},y∈pg x l↔y=x\/y∈l
 | []=>by simp[pg]
 | z::r=>by
  unfold pg
  split
  . simp
  . rw[List.mem_cons,Fv,List.mem_cons]
    constructor
    . rintro(h|h|h)
      . exact .inr (.inl h)
      . exact .inl h
      . exact .inr (.inr h)
    . rintro(h|h|h)
      . exact .inr (.inl h)
      . exact .inl h
      . exact .inr (.inr h)
theorem W3{x:b1}:∀{l:List b1},l.Pairwise qD->x∉l->(pg x l).Pairwise qD
 | [],_,_=>by simp[pg]
 | z::r,h,ag=>by
  rw[List.pairwise_cons] at h
  unfold pg
  split
  . rename_i bj
    refine List.pairwise_cons.2 ⟨λy aD=>?_,List.pairwise_cons.2 h⟩
    rcases List.mem_cons.1 aD with rfl|aD
    . exact bj
    . exact W1 bj (h.1 y aD)
  . rename_i bj
    refine List.pairwise_cons.2 ⟨λy aD=>?_,W3 h.2 λhm=>ag (by simp[hm])⟩
    rcases Fv.1 aD with rfl|aD
    . exact aie bj λe=>ag (by simp[e])
    . exact h.1 y aD
theorem NK(x:b1):∀(l:List b1),(pg x l).length=l.length+1
 | []=>rfl
 | z::r=>by
  unfold pg
  split
  . simp
  . simp[NK x r]
def pL(l:List b1)(x:b1)(k:Nat)(out:List b1)(b:Bool):Prop:=pg x l=out++(if b=true then l.drop k else pg x (l.drop k))/\out.length=k+if b=true then 1 else 0
theorem pL.start(l:List b1)(x:b1):pL l x 0 [] false:=⟨by simp,by simp⟩
theorem pL.here{l:List b1}{x y:b1}{k:Nat}{out:List b1}(h:pL l x k out false)(ag:l[k]?=some y)(bj:oo x y=true):pL l x (k+1) (out++[x]++[y]) true:=by
 obtain⟨h1,ah⟩:=h;refine⟨?_,by simp at ah ⊢;omega⟩;rw[h1,if_neg dg,if_pos rfl,wu ag]
 conv=>lhs;unfold pg
 rw[if_pos bj];simp
theorem pL.aif{l:List b1}{x y:b1}{k:Nat}{out:List b1}(h:pL l x k out false)(ag:l[k]?=some y)(bj:oo x y=false):pL l x (k+1) (out++[y]) false:=by
 obtain⟨h1,ah⟩:=h;refine⟨?_,by simp at ah ⊢;omega⟩;rw[h1,if_neg dg,if_neg dg,wu ag]
 conv=>lhs;unfold pg
 rw[if_neg (by simp[bj])];simp
theorem pL.next{l:List b1}{x y:b1}{k:Nat}{out:List b1}(h:pL l x k out true)(ag:l[k]?=some y):pL l x (k+1) (out++[y]) true:=by
 obtain⟨h1,ah⟩:=h;refine⟨?_,by simp at ah ⊢;omega⟩;rw[h1,if_pos rfl,if_pos rfl,wu ag];simp
theorem pL.W4{l:List b1}{x:b1}{k:Nat}{out:List b1}(h:pL l x k out false)(hk:l.length<=k):out++[x]=pg x l:=by
 obtain⟨h1,_⟩:=h;rw[h1,if_neg dg,List.drop_of_length_le hk];rfl
theorem pL.W5{l:List b1}{x:b1}{k:Nat}{out:List b1}(h:pL l x k out true)(hk:l.length<=k):out=pg x l:=by
 obtain⟨h1,_⟩:=h;rw[h1,if_pos rfl,List.drop_of_length_le hk];simp
def ph(s:aj)(k:Int)(out:List b1)(w:aj):List b1:=if 0<=mv w s/\mv w s<=k then pg ⟨mv w s,w⟩ out else out
def mL(words:List aj)(s:aj)(k:Int):List b1:=words.foldl (ph s k) []
theorem W6{words:List aj}{s:aj}{k:Int}{i:Nat}{w:aj}(hw:words[i]?=some w):(words.take (i+1)).foldl (ph s k) []=ph s k ((words.take i).foldl (ph s k) []) w:=by
 rw[List.take_add_one,hw,List.foldl_append];rfl
theorem W7{s:aj}{k:Int}{out:List b1}{w:aj}(h:0<=mv w s)(ah:mv w s<=k):ph s k out w=pg ⟨mv w s,w⟩ out:=by unfold ph;rw[if_pos ⟨h,ah⟩]
theorem W8{s:aj}{k:Int}{out:List b1}{w:aj}(h:¬ (0<=mv w s/\mv w s<=k)):ph s k out w=out:=by unfold ph;rw[if_neg h]
theorem aih{s:aj}{k:Int}:∀{words:List aj},words.Nodup->(mL words s k).Pairwise qD/\∀x,x∈mL words s k↔x.word∈words/\x.ck=mv x.word s/\0<=x.ck/\x.ck<=k:=by
 intro words;unfold mL;refine WW (p:=λwords=>words.Nodup->(words.foldl (ph s k) []).Pairwise qD/\∀x,x∈words.foldl (ph s k) []↔x.word∈words/\x.ck=mv x.word s/\0<=x.ck/\x.ck<=k) ?_ ?_ words
 . intro _;simp
 . intro l w b' aN;rw[List.nodup_append] at aN;obtain⟨h1,_,aB⟩:=aN;obtain⟨rJ,i2⟩:=b' h1;have hw:w∉l:=λh=>aB w h w dg rfl
   rw[List.foldl_append];show(ph s k (l.foldl (ph s k) []) w).Pairwise qD/\∀x,x∈ph s k (l.foldl (ph s k) []) w↔_;by_cases ao:0<=mv w s/\mv w s<=k
   . rw[W7 ao.1 ao.2];refine⟨W3 rJ λh=>hw ((i2 _).1 h).1,λx=>?_⟩;rw[Fv,i2];constructor
     . rintro(rfl|⟨h1,ah⟩)
       . exact⟨by simp,rfl,ao.1,ao.2⟩
       . exact⟨by simp[h1],ah⟩
     . rintro⟨h1,ah,bE⟩;rcases List.mem_append.1 h1 with h1|h1
       . exact .inr ⟨h1,ah,bE⟩
       . simp only[List.mem_singleton] at h1;refine .inl ?_;cases x;simp only at *;subst h1;rw[ah]
   . rw[W8 ao];refine⟨rJ,λx=>?_⟩;rw[i2];constructor
     . rintro⟨h1,ah⟩;exact⟨by simp[h1],ah⟩
     . rintro⟨h1,ah,bE⟩;rcases List.mem_append.1 h1 with h1|h1
       . exact⟨h1,ah,bE⟩
       . simp only[List.mem_singleton] at h1;rw[h1] at ah;exact absurd ⟨by rw[<-ah];exact bE.1,by rw[<-ah];exact bE.2⟩ ao
theorem W9(words:List aj)(s:aj)(k:Int):(mL words s k).length<=words.length:=by
 unfold mL
 have:∀(l:List aj) (out:List b1),(l.foldl (ph s k) out).length<=out.length+l.length:=by
  intro l
  induction l with
  | nil=>simp
  | cons w l b' =>
   intro out
   have:=b' (ph s k out w)
   rw[List.foldl_cons,List.length_cons]
   unfold ph at this ⊢
   split at this
   . rw[if_pos bh];rw[NK] at this;omega
   . rw[if_neg bh];omega
 simpa using this words []
def tm(words:List aj)(q:List Int)(n:Nat):List b1:=(List.range n).flatMap λ(d:Nat)=>(p' words q d).map λw=>b1.mk (d:Int) w
theorem W_(words:List aj)(q:List Int)(n:Nat):tm words q (n+1)=tm words q n++(p' words q n).map λw=>b1.mk (n:Int) w:=by unfold tm;rw[List.range_succ,List.flatMap_append];simp
theorem W'{words:List aj}{q:List Int}{n:Nat}{x:b1}:x∈tm words q n↔x.word∈words/\x.ck=ve q (ea x.word)/\x.ck<n:=by
 unfold tm;rw[List.mem_flatMap];constructor
 . rintro⟨d,hd,ag⟩;obtain⟨w,hw,rfl⟩:=List.mem_map.1 ag;unfold p' vf at hw;obtain⟨h1,ah⟩:=List.mem_filter.1 hw;have:=of_decide_eq_true ah;have:=List.mem_range.1 hd;exact⟨h1,by simp only;omega,by simp only;omega⟩
 . rintro⟨h1,ah,aB⟩;have:=(NI q (ea x.word)).1;refine⟨x.ck.toNat,List.mem_range.2 aa,List.mem_map.2 ⟨x.word,List.mem_filter.2 ⟨h1,by unfold vf;exact decide_eq_true aa⟩,?_⟩⟩;cases x;simp only at *;congr 1;omega
theorem Xa{words:List aj}{q:List Int}(aT:o8 words):∀n,(tm words q n).Pairwise qD
 | 0=>by simp[tm]
 | n+1=>by
  rw[W_,List.pairwise_append]
  refine⟨Xa aT n,?_,λa aw b ab=>?_⟩
  . rw[List.pairwise_map]
    refine(aT.filter _).imp λ{a b} mG=>?_
    exact xU.2 (.inr ⟨rfl,mG⟩)
  . obtain⟨w,_,rfl⟩:=List.mem_map.1 ab
    exact xU.2 (.inl (by have:=(W'.1 aw).2.2;simp only;omega))
theorem Xb{w s:aj}(h1:jX w=true)(ah:jX s=true):mv w s=ve (ea s) (ea w):=by unfold mv;rw[if_pos ⟨h1,ah⟩]
theorem aii{words:List aj}{s:aj}{k:Int}(aT:o8 words)(bB:∀w∈words,jX w=true)(qu:jX s=true)(hk:0<=k):mL words s k=tm words (ea s) (k.toNat+1):=by
 obtain⟨h1,ah⟩:=aih (s:=s) (k:=k) (aev aT);refine W2 h1 (Xa aT _) λx=>?_
 rw[ah,W'];constructor
 . rintro⟨aB,bE,c6,eZ⟩;rw[Xb (bB _ aB) qu] at bE;exact⟨aB,bE,by omega⟩
 . rintro⟨aB,bE,c6⟩;have:=(NI (ea s) (ea x.word)).1;rw[Xb (bB _ aB) qu];exact⟨aB,bE,by omega,by omega⟩
def oq(first:Bool)(after:b1)(x:b1):Bool:=first || oo after x
def j_(words:List aj)(s:aj)(k:Int)(first:Bool)(after:b1)(batch:Int):List b1×Bool:=
 if asked s=true/\0<=k/\k<=4 then
  let rest:=(mL words s k).filter (oq first after)
  (rest.take (min (max batch 0) rest.length).toNat,decide (min (max batch 0) (rest.length:Int)=rest.length))
 else([],true)
theorem NL{first:Bool}{after:b1}{B:Nat}{d:Int}:∀(L:List aj) (X:List b1),X.length<=B->(fp (mu first after B d) (X,false) L).1=((X++(L.map (b1.mk d)).filter (oq first after)).take B,decide (B<(X++(L.map (b1.mk d)).filter (oq first after)).length))
 | [],X,h=>by simp[fp,List.take_of_length_le h];omega
 | w::L,X,h=>by
  rw[List.map_cons]
  by_cases ao:oq first after ⟨d,w⟩=true
  . rw[List.filter_cons_of_pos ao]
    have I_:first=true\/oo after ⟨d,w⟩=true:=by unfold oq at ao;simpa using ao
    by_cases ab:(X.length:Int)=B
    . unfold fp
      rw[xS I_ ab,if_neg dg]
      have:X.length=B:=by omega
      simp only
      rw[List.take_append_of_le_length aa,List.take_of_length_le aa]
      congr 1
      symm
      rw[decide_eq_true_eq]
      simp only[List.length_append,List.length_cons];omega
    . unfold fp
      rw[xT I_ ab,if_pos dg]
      show(fp (mu first after B d) (X++[⟨d,w⟩],false) L).1=_
      rw[NL (first:=first) (after:=after) (d:=d) (B:=B) L (X++[b1.mk d w]) (by simp only[List.length_append,List.length_cons,List.length_nil];omega)]
      simp
  . have Xc:oq first after ⟨d,w⟩=false:=by simpa using ao
    rw[List.filter_cons_of_neg ao]
    unfold oq at Xc
    obtain⟨bB,bj⟩:first=false/\oo after ⟨d,w⟩=false:=by simpa using Xc
    subst bB
    unfold fp
    rw[xR bj,if_pos dg]
    exact NL (B:=B) L X h
theorem Xd{words:List aj}{q:List Int}{first:Bool}{after:b1}{B:Nat}:∀n,iD words q first after B n=(((tm words q n).filter (oq first after)).take B,decide (B<((tm words q n).filter (oq first after)).length))
 | 0=>by simp[iD,tm]
 | n+1=>by
  have b':=Xd (words:=words) (q:=q) (first:=first) (after:=after) (B:=B) n
  unfold iD
  simp only
  rw[b',W_,List.filter_append]
  simp only
  by_cases hm:B<((tm words q n).filter (oq first after)).length
  . rw[if_pos (decide_eq_true hm)]
    rw[List.take_append_of_le_length aa]
    congr 1
    rw[decide_eq_true hm,eq_comm,decide_eq_true_eq,List.length_append];omega
  . rw[if_neg (by simpa using hm)]
    unfold NC
    rw[List.take_of_length_le aa,decide_eq_false hm,NL (B:=B) _ _ aa]
theorem aij{g:List cw}{words:List aj}{s:aj}{k:Int}{first:Bool}{after:b1}{batch:Int}(aU:g≠[])(aT:o8 words)(bB:∀w∈words,jX w=true):pK g words s k first after batch=j_ words s k first after batch:=by
 unfold pK j_;by_cases ao:asked s=true/\0<=k/\k<=4
 . rw[if_pos (I8 aU ao.2 ao.1),if_pos ao];simp only;rw[aii aT bB (I9 ao.1) ao.2.1];have fX:max batch 0=((max batch 0).toNat:Int):=(by omega);rw[fX,Xd];simp only;generalize (tm words (ea s) (k.toNat+1)).filter (oq first after)=R;congr 1
   . by_cases h:(max batch 0).toNat<=R.length
     . congr 1;omega
     . rw[List.take_of_length_le aa,List.take_of_length_le aa]
   . by_cases h:(max batch 0).toNat<R.length
     . rw[decide_eq_true h,decide_eq_false aa];rfl
     . rw[decide_eq_false h,decide_eq_true aa];rfl
 . rw[if_neg (λh=>ao ⟨(A_.1 h).2.2,(A_.1 h).2.1⟩),if_neg ao]
end Go.ak
namespace Go.ak
open Go.aH
theorem aik(a b:aj):-1<=mv a b/\mv a b<=(ea a).length+(ea b).length:=by
 unfold mv;split
 . have:=NI (ea b) (ea a);omega
 . omega
theorem ail{a b:b1}(h1:¬ a.ck<b.ck)(ah:¬ a.ck=b.ck):false=oo a b:=by
 cases h:oo a b with
 | false=>rfl
 | true=>rw[xU] at h;rcases h with h|h;exact absurd h h1;exact absurd h.1 ah
theorem aim{a b:b1}{c:Bool}(ah:a.ck=b.ck)(h:c=decide (Lib.compareBytes a.word b.word<0)):c=oo a b:=by
 cases gN:oo a b with
 | true =>
  rw[xU] at gN;rcases gN with gN|gN
  . omega
  . rw[h];exact decide_eq_true gN.2
 | false =>
  rw[h];refine decide_eq_false λag=>?_
  have:=xU.2 (.inr ⟨ah,ag⟩);rw[gN] at this;cases this
theorem ain{x:b1}{l:List b1}{n:Nat}(h:∀y∈l,y.word.length<=n)(ag:x.word.length<=n):∀y∈pg x l,y.word.length<=n:=λy aD=>by
 rcases Fv.1 aD with rfl|aD
 . exact ag
 . exact h y aD
theorem aio{words:List aj}{s:aj}{k:Int}:∀x∈mL words s k,x.word∈words:=by
 unfold mL
 have:∀(l:List aj) (out:List b1),∀x∈l.foldl (ph s k) out,x∈out\/x.word∈l:=by
  intro l
  induction l with
  | nil=>intro out x ag;exact .inl ag
  | cons w l b' =>
   intro out x ag
   rw[List.foldl_cons] at ag
   rcases b' _ x ag with h|h
   . unfold ph at h
     split at h
     . rcases Fv.1 h with rfl|h
       . exact .inr dg
       . exact .inl h
     . exact .inl h
   . exact .inr (by simp[h])
 intro x ag;rcases this words [] x ag with h|h
 . simp at h
 . exact h
theorem aip{words:List aj}{s:aj}{k:Int}(h:∀w∈words,w.length<=1000):∀x∈mL words s k,x.word.length<=1000:=λx ag=>h _ (aio x ag)
theorem Xe{α:Type}{l:List α}{p:α->Bool}{i:Nat}{x:α}(ag:l[i]?=some x):(l.take (i+1)).filter p=(l.take i).filter p++if p x=true then[x] else[]:=by
 rw[List.take_add_one,ag,List.filter_append];congr 1
 by_cases h:p x=true<;>simp[h]
theorem aiq{l rest:List b1}{first:Bool}{after x:b1}{i:Nat}(h:rest=(l.take i).filter (oq first after))(ag:l[i]?=some x)(ao:first=true\/oo after x=true):rest++[x]=(l.take (i+1)).filter (oq first after):=by
 rw[Xe ag,<-h,if_pos (by unfold oq;rcases ao with h|h<;>simp[h])]
theorem air{l rest:List b1}{first:Bool}{after x:b1}{i:Nat}(h:rest=(l.take i).filter (oq first after))(ag:l[i]?=some x)(bB:first=false)(ao:oo after x=false):rest=(l.take (i+1)).filter (oq first after):=by
 rw[Xe ag,<-h,if_neg (by unfold oq;simp[bB,ao])];simp
section
variable {words:List aj} {s:aj} {k batch:Int} {first:Bool} {after:b1} {rest:List b1} {i:Nat}
theorem I'(h:¬ (asked s=true/\0<=k/\k<=4)):j_ words s k first after batch=([],true):=by unfold j_;rw[if_neg h]
theorem ais(h:k<0\/k>4):[]=(j_ words s k first after batch).1:=by rw[I' (λx=>by omega)]
theorem ait(h:asked s=false):[]=(j_ words s k first after batch).1:=by rw[I' (λx=>by simp[h] at x)]
theorem aiu(h:k<0\/k>4):true=(j_ words s k first after batch).2:=by rw[I' (λx=>by omega)]
theorem aiv(h:asked s=false):true=(j_ words s k first after batch).2:=by rw[I' (λx=>by simp[h] at x)]
theorem Xf(h:rest=((mL words s k).take i).filter (oq first after))(ar:(mL words s k).length<=i)(aw:asked s=true)(hk:0<=k/\k<=4):j_ words s k first after batch=(rest.take (min (max batch 0) rest.length).toNat,decide (min (max batch 0) (rest.length:Int)=rest.length)):=by
 unfold j_;rw[List.take_of_length_le ar] at h;rw[if_pos ⟨aw,hk⟩,<-h]
theorem aiw(h:rest=((mL words s k).take i).filter (oq first after))(ar:(mL words s k).length<=i)(aw:asked s=true)(hk:0<=k/\k<=4):rest.take (min (max batch 0) rest.length).toNat=(j_ words s k first after batch).1:=by rw[Xf h ar aw hk]
theorem aix{b:Bool}(h:rest=((mL words s k).take i).filter (oq first after))(ar:(mL words s k).length<=i)(aw:asked s=true)(hk:0<=k/\k<=4)(ab:b=decide (min (max batch 0) (rest.length:Int)=rest.length)):b=(j_ words s k first after batch).2:=by rw[Xf h ar aw hk,ab]
theorem asU(words:List aj)(s:aj)(k:Int)(first:Bool)(after:b1)(batch:Int):(j_ words s k first after batch).1.length<=words.length:=by
 unfold j_;split
 . have h1:=W9 words s k;have ah:=List.length_filter_le (oq first after) (mL words s k);simp only[List.length_take];omega
 . simp
end
end Go.ak
theorem Go.ak.pL.len{l:List Go.ak.b1}{x:Go.ak.b1}{k:Nat}{out:List Go.ak.b1}{b:Bool}(h:Go.ak.pL l x k out b):out.length<=k+1:=by
 have:=h.2;split at this<;>omega
theorem Go.ak.Xg(words:List Go.aH.aj)(s:Go.aH.aj)(k:Int)(h:∀w∈words,w.length<=1000):∀x∈Go.ak.mL words s k,x.word.length<=1000:=Go.ak.aip h
set_option linter.unusedSectionVars false
namespace Go.aH
open Go Go.MapKept
section
variable {P:Program} {E:Env} {C:World->Prop} {d:Option Tmp} {ty:TypeId} {pos:String} {af:Array Edge} {gd:Option (Nat×Bool)} {w:World} {K:Value->World->Prop}
variable {α β:Type} [DecidableEq α] {key:α->Value} {val:β->Value} {kind:TypeDesc}
def lB:List (α×β)->α->β->List (α×β)
 | [],a,u=>[(a,u)]
 | p::m,a,u=>if p.1=a then(a,u)::m else p::lB m a u
def l':List (α×β)->α->List (α×β)
 | [],_=>[]
 | p::m,a=>if p.1=a then m else p::l' m a
def kQ(key:α->Value)(val:β->Value)(w:World)(b:Nat)(m:List (α×β)):Prop:=
 ∃es clock,w.heap[b]?=some (.map es clock)/\Stamped es clock/\es.toList.map (λe=>(e.key,e.val))=m.map λp=>(key p.1,val p.2)
theorem kQ.o{b:Nat}{m:List (α×β)}(h:kQ key val w b m):ng key val w b m:=by
 obtain⟨es,c,h1,_,ah⟩:=h;exact⟨es,c,h1,ah⟩
theorem kQ.lt{b:Nat}{m:List (α×β)}(h:kQ key val w b m):b<w.heap.size:=h.o.lt
theorem kQ.keep{M:Nat->Prop}{an:World}{b:Nat}{m:List (α×β)}(h:kQ key val w b m)(hm:Mod M w an)(ab:¬ M b):kQ key val an b m:=by
 obtain⟨es,c,h1,ah,aB⟩:=h;exact⟨es,c,hm.keep _ _ h1 ab,ah,aB⟩
structure Xh(P:Program)(e2:TypeId)(key:α->Value):Prop extends KeyOk P e2 key where
 bits:∀a,Instr.sameBits 10000 (key a) (key a)=true
theorem aiy{e2:TypeId}(h:P.underlying e2=some (.int .i64)):Xh P e2 fC:=⟨u4 h,λa=>by simp[fC,Instr.sameBits]⟩
theorem KeyOk.inj{e2:TypeId}(h:KeyOk P e2 key){a b:α}(e:key a=key b):a=b:=by
 obtain⟨kind,_,aT⟩:=h.same;have h1:=aT b a;rw[e] at h1;rw[aT b b] at h1;simp only[Option.some.injEq,decide_true] at h1;exact(of_decide_eq_true h1.symm).symm
theorem aiz(a:α):gv ([]:List (α×β)) a=none:=rfl
theorem qb(p:α×β)(m:List (α×β))(a:α):gv (p::m) a=if p.1=a then some p.2 else gv m a:=by
 unfold gv;rw[List.find?_cons];by_cases h:p.1=a
 . simp[h]
 . simp[h]
theorem Xi(aT:∀a b:α,Instr.sameNow kind (key a) (key b)=some (decide (a=b)))(a:α):∀(es:List MapEntry) (m:List (α×β)) (i:Nat),es.map (λe=>(e.key,e.val))=m.map (λp=>(key p.1,val p.2)) ->
 (gv m a=none/\Instr.findNow kind (key a) es i=some none/\(∀u,lB m a u=m++[(a,u)])/\l' m a=m/\∀p∈m,p.1≠a) \/
 (∃j eP j7,gv m a=some eP/\es[j]?=some j7/\j7.key=key a/\Instr.findNow kind (key a) es i=some (some (i+j,val eP)) /\
  (∀u,(es.modify j λe=>{ e with key:=key a,val:=val u }).map (λe=>(e.key,e.val))=(lB m a u).map λp=>(key p.1,val p.2)) /\
  (es.eraseIdx j).map (λe=>(e.key,e.val))=(l' m a).map λp=>(key p.1,val p.2))
 | [],m,i,h=>by
  cases m with
  | nil=>exact .inl ⟨rfl,rfl,λ_=>rfl,rfl,by simp⟩
  | cons _ _=>simp at h
 | e::es,m,i,h=>by
  cases m with
  | nil=>simp at h
  | cons p m =>
   simp only[List.map_cons,List.cons.injEq,Prod.mk.injEq] at h
   obtain⟨⟨h1,ah⟩,aB⟩:=h
   by_cases hp:p.1=a
   . refine .inr ⟨0,p.2,e,?_,rfl,by rw[h1,hp],?_,λu=>?_,?_⟩
     . rw[qb,if_pos hp]
     . unfold Instr.findNow
       rw[h1,aT a p.1,decide_eq_true hp.symm,ah];rfl
     . simp[lB,hp,aB]
     . simp[l',hp,aB]
   . have AL:¬ (a=p.1):=λe=>hp e.symm
     rcases Xi aT a es m (i+1) aB with ⟨eb,q2,fx,gw,hS⟩|⟨j,eP,j7,eb,q2,fx,gw,hS,oO⟩
     . refine .inl ⟨?_,?_,λu=>?_,?_,?_⟩
       . rw[qb,if_neg hp];exact eb
       . unfold Instr.findNow
         rw[h1,aT a p.1,decide_eq_false AL];exact q2
       . simp[lB,hp,fx]
       . simp[l',hp,gw]
       . intro x ag
         rcases List.mem_cons.1 ag with rfl|ag
         . exact hp
         . exact hS x ag
     . refine .inr ⟨j+1,eP,j7,?_,q2,fx,?_,λu=>?_,?_⟩
       . rw[qb,if_neg hp];exact eb
       . unfold Instr.findNow
         rw[h1,aT a p.1,decide_eq_false AL]
         simp only[gw]
         congr 3;omega
       . simp[lB,hp,h1,ah,hS]
       . simp[l',hp,h1,ah,oO]
theorem aiA{e2:TypeId}(hk:KeyOk P e2 key)(a:α){es:Array MapEntry}{m:List (α×β)}(h:es.toList.map (λe=>(e.key,e.val))=m.map (λp=>(key p.1,val p.2)))(w:World):
 (gv m a=none/\(Instr.findKey e2 (key a) es.toList).run P w=.ok none w/\(∀u,lB m a u=m++[(a,u)])/\l' m a=m/\∀x∈es.toList,x.key≠key a) \/
 (∃j eP j7,gv m a=some eP/\es[j]?=some j7/\j7.key=key a/\(Instr.findKey e2 (key a) es.toList).run P w=.ok (some (j,val eP)) w /\
  (∀u,(es.modify j λe=>{ e with key:=key a,val:=val u }).toList.map (λe=>(e.key,e.val))=(lB m a u).map λp=>(key p.1,val p.2)) /\
  (es.eraseIdxIfInBounds j).toList.map (λe=>(e.key,e.val))=(l' m a).map λp=>(key p.1,val p.2)):=by
 obtain⟨kind,hu,aT⟩:=hk.same;rcases Xi aT a es.toList m 0 h with ⟨eb,q2,fx,gw,hS⟩|⟨j,eP,j7,eb,q2,fx,gw,hS,oO⟩
 . refine .inl ⟨eb,?_,fx,gw,λx ag e=>?_⟩
   . unfold Instr.findKey;simp only[Sem.run_bind,run_underlying hu,Result.andThen_ok,q2,Sem.run_pure]
   . have:(x.key,x.val)∈m.map (λp=>(key p.1,val p.2)):=by
      rw[<-h];exact List.mem_map.2 ⟨x,ag,rfl⟩
     obtain⟨p,hp,he⟩:=List.mem_map.1 this;simp only[Prod.mk.injEq] at he;exact hS p hp (hk.inj (he.1.trans e))
 . rw[Array.getElem?_toList] at q2;have bo:j<es.size:=(Array.getElem?_eq_some_iff.1 q2).1;refine .inr ⟨j,eP,j7,eb,q2,fx,?_,λu=>?_,?_⟩
   . unfold Instr.findKey;simp only[Sem.run_bind,run_underlying hu,Result.andThen_ok,gw,Sem.run_pure,Nat.zero_add]
   . rw[Array.toList_modify];exact hS u
   . unfold Array.eraseIdxIfInBounds;rw[dif_pos bo,Array.toList_eraseIdx];exact oO
theorem C_{w:World}{b:Nat}{o Mf:Obj}(h:w.heap[b]?=some o):(w.heap.setIfInBounds b Mf)[b]?=some Mf:=by
 have:=(Array.getElem?_eq_some_iff.1 h).1;simp[this]
theorem gB.aiB{t e2 jk:TypeId}{x y z:Operand}{b:Nat}{m:List (α×β)}(a:α)(u:β)(hk:Xh P e2 key)(a8:P.underlying t=some (.map e2 jk))(ag:aO E x=some (.map (some b)))(aD:aO E y=some (key a))(cO:aO E z=some (val u))(hm:kQ key val w b m)
 (eR:∀an,Mod (b_ (b+1)) w an->an.heap.size=w.heap.size->kQ key val an b (lB m a u)->K undef an):gB P ⟨d,.mapUpdate t x y z,ty,pos,af,gd⟩ E w K:=λs aw=>by
 obtain⟨es,c,h1,ah,aB⟩:=hm
 have aU:=yW (P:=P) h1
 rcases aiA (P:=P) hk.toKeyOk a aB w with ⟨eb,q2,fx,gw,hS⟩|⟨j,eP,j7,eb,q2,fx,gw,hS,oO⟩
 . have h:=eR _ (AM w b (.map (es.push { key:=key a,val:=val u,born:=c }) (c+1))) dg ⟨es.push { key:=key a,val:=val u,born:=c },c+1,C_ h1,stamped_push ah hS,by
    rw[fx u];simp[aB]⟩
   simp[execOp,aw.aO ag,aw.aO aD,aw.aO cO,Instr.mapUpdate,run_underlying a8,aU,hk.q4,q2,setObj,Sem.run,h1,out]
   exact h
 . have mF:Stamped (es.modify j λe=>{ e with key:=key a,val:=val u }) c:=stamped_modify ah j _ (λ_ _=>rfl) λe _ he=>by
    rw[q2] at he;cases he;exact fx.symm
   have h:=eR _ (AM w b (.map (es.modify j λe=>{ e with key:=key a,val:=val u }) c)) dg ⟨_,c,C_ h1,mF,hS u⟩
   have k':Instr.keyThatStays (key a) (key a)=(pure (key a):Sem Value):=by
    unfold Instr.keyThatStays;rw[if_pos (hk.bits a)]
   simp[execOp,aw.aO ag,aw.aO aD,aw.aO cO,Instr.mapUpdate,run_underlying a8,aU,hk.q4,gw,q2,fx,k',setObj,Sem.run,h1,out]
   exact h
theorem gB.Xj{t:TypeId}(eR:∀an b,Ext w an->b=w.heap.size->an.heap.size=w.heap.size+1->kQ key val an b []->K (.map (some b)) an):gB P ⟨d,.makeMap t none,ty,pos,af,gd⟩ E w K:=λs aw=>by
 have h:=eR (w.alloc (.map #[] 0)) w.heap.size (Mod.alloc _ _ _) rfl dg ⟨#[],0,by
  show(w.heap.push _)[w.heap.size]?=_
  simp,stamped_empty 0,by simp⟩
 simp[execOp,Instr.makeMap,newObj,Sem.run,out]
 exact h
end
section
variable {R:Nat->Prop}
def jl{α β:Type}[DecidableEq α](key:α->Value)(val:β->Value)(b:Nat)(m:List (α×β)):dk R:=⟨λF w=>kQ key val w b m/\F b,λh hm bs _=>⟨h.1.keep hm (bs b h.2),h.2⟩⟩
variable {bS:Nat->Prop} {w0 w an:World} {L:List (dk R)} {i:Nat}
theorem au.mp{α β:Type}[DecidableEq α]{key:α->Value}{val:β->Value}{b:Nat}{m:List (α×β)}(h:au R bS w0 w L)(ar:L[i]?=some (jl key val b m)):kQ key val w b m:=by
 obtain⟨F,h1,_⟩:=h.get ar;exact h1.1
theorem au.C'{α β:Type}[DecidableEq α]{key:α->Value}{val:β->Value}{b:Nat}{m sY:List (α×β)}(h:au R bS w0 w L)(ar:L[i]?=some (jl key val b m))(hm:Mod (b_ (b+1)) w an)(hk:kQ key val an b sY):au R bS w0 an (L.set i (jl key val b sY)):=by
 obtain⟨F,h1,ah,k⟩:=h.act ar;exact k an F _ (Mv hm h1.2) ⟨hk,h1.2⟩ λb ab=>⟨Nat.lt_of_lt_of_le (ah b ab).2 hm.size,.inl ab⟩
theorem au.Xk{α β:Type}[DecidableEq α]{key:α->Value}{val:β->Value}{b:Nat}{m:List (α×β)}(h:au R bS w0 w L)(hm:Ext w an)(ab:b=w.heap.size)(hk:kQ key val an b m):au R bS w0 an (L++[jl key val b m]):=
 h.new (F:=λx=>x=b) hm ⟨hk,rfl⟩ λx ag=>by have:=hk.lt;omega
end
end Go.aH
set_option linter.unusedSectionVars false
namespace Go.aH
open Go
section
variable {P:Program} {E:Env} {C:World->Prop} {d:Option Tmp} {ty:TypeId} {pos:String} {af:Array Edge} {gd:Option (Nat×Bool)} {w:World} {K:Value->World->Prop}
def vh:Option TypeDesc->Bool
 | some (.interface _)=>false
 | some _=>true
 | none=>false
theorem bx.mkIf{t:TypeId}{x:Operand}{v:Value}(a8:vh (P.underlying t)=true)(ag:aO E x=some v):bx P ⟨d,.makeInterface t x,ty,pos,af,gd⟩ E C (.iface t v):=λs aw w _=>by
 cases hd:P.underlying t with
 | none=>rw[hd] at a8;cases a8
 | some q=>cases q<;>simp_all[execOp,aw.aO ag,Instr.makeInterface,run_underlying hd,vh]
theorem bx.pM{xt t:TypeId}{x:Operand}{v:Value}(a8:vh (P.underlying t)=true)(ag:aO E x=some (.iface t v)):bx P ⟨d,.typeAssert x xt t true,ty,pos,af,gd⟩ E C (.tuple #[v,.bool true]):=λs aw w _=>by
 cases hd:P.underlying t with
 | none=>rw[hd] at a8;cases a8
 | some q=>cases q<;>simp_all[execOp,aw.aO ag,Instr.typeAssert,run_underlying hd,vh]
theorem bx.ir{xt t u:TypeId}{x:Operand}{v z:Value}(a8:vh (P.underlying t)=true)(ag:aO E x=some (.iface u v))(dG:u≠t)(cO:∀w,(zeroValue t).run P w=.ok z w):bx P ⟨d,.typeAssert x xt t true,ty,pos,af,gd⟩ E C (.tuple #[z,.bool false]):=λs aw w _=>by
 cases hd:P.underlying t with
 | none=>rw[hd] at a8;cases a8
 | some q=>cases q<;>simp_all[execOp,aw.aO ag,Instr.typeAssert,run_underlying hd,vh]
end
end Go.aH
namespace Go.aH
open Go Go.MapKept
section
variable {P:Program} {E:Env} {C:World->Prop} {d:Option Tmp} {ty:TypeId} {pos:String} {af:Array Edge} {gd:Option (Nat×Bool)} {w:World} {K:Value->World->Prop}
variable {α β:Type} [DecidableEq α] {key:α->Value} {val:β->Value}
structure ui(P:Program)(e2:TypeId)(key:α->Value):Prop where
 q4:∀(e:Bool) (a:α) (w:World),(Instr.checkKey e 10000 e2 (key a)).run P w=.ok () w
 bits:∀a,Instr.sameBits 10000 (key a) (key a)=true
 aiC:∃kind,P.underlying e2=some kind/\∀a b:α,Instr.sameNow kind (key a) (key b)=none
 eq:∀(a b:α) (w:World),(Op.equal e2 (key a) (key b)).run P w=.ok (decide (a=b)) w
theorem ui.inj{e2:TypeId}(h:ui P e2 key){a b:α}(e:key a=key b):a=b:=by
 have h1:=h.eq a b default;rw[e,h.eq b b] at h1;simp only[Result.ok.injEq,decide_true] at h1;exact of_decide_eq_true h1.1.symm
theorem Xl{e2:TypeId}(hk:ui P e2 key)(a:α)(w:World):∀(es:List MapEntry) (m:List (α×β)) (i:Nat),es.map (λe=>(e.key,e.val))=m.map (λp=>(key p.1,val p.2)) ->
 (gv m a=none/\(Instr.findAsking e2 (key a) es i).run P w=.ok none w/\(∀u,lB m a u=m++[(a,u)])/\l' m a=m/\∀p∈m,p.1≠a) \/
 (∃j eP j7,gv m a=some eP/\es[j]?=some j7/\j7.key=key a/\(Instr.findAsking e2 (key a) es i).run P w=.ok (some (i+j,val eP)) w /\
  (∀u,(es.modify j λe=>{ e with key:=key a,val:=val u }).map (λe=>(e.key,e.val))=(lB m a u).map λp=>(key p.1,val p.2)) /\
  (es.eraseIdx j).map (λe=>(e.key,e.val))=(l' m a).map λp=>(key p.1,val p.2))
 | [],m,i,h=>by
  cases m with
  | nil=>exact .inl ⟨rfl,rfl,λ_=>rfl,rfl,by simp⟩
  | cons _ _=>simp at h
 | e::es,m,i,h=>by
  cases m with
  | nil=>simp at h
  | cons p m =>
   simp only[List.map_cons,List.cons.injEq,Prod.mk.injEq] at h
   obtain⟨⟨h1,ah⟩,aB⟩:=h
   by_cases hp:p.1=a
   . refine .inr ⟨0,p.2,e,?_,rfl,by rw[h1,hp],?_,λu=>?_,?_⟩
     . rw[qb,if_pos hp]
     . unfold Instr.findAsking
       rw[h1,ah]
       simp only[Sem.run_bind,hk.eq a p.1 w,decide_eq_true hp.symm,Result.andThen_ok,if_true,Sem.run_pure,Nat.add_zero]
     . simp[lB,hp,aB]
     . simp[l',hp,aB]
   . have AL:¬ (a=p.1):=λe=>hp e.symm
     rcases Xl hk a w es m (i+1) aB with ⟨eb,q2,fx,gw,hS⟩|⟨j,eP,j7,eb,q2,fx,gw,hS,oO⟩
     . refine .inl ⟨?_,?_,λu=>?_,?_,?_⟩
       . rw[qb,if_neg hp];exact eb
       . unfold Instr.findAsking
         rw[h1]
         simp only[Sem.run_bind,hk.eq a p.1 w,decide_eq_false AL,Result.andThen_ok,Bool.false_eq_true,if_false]
         exact q2
       . simp[lB,hp,fx]
       . simp[l',hp,gw]
       . intro x ag
         rcases List.mem_cons.1 ag with rfl|ag
         . exact hp
         . exact hS x ag
     . refine .inr ⟨j+1,eP,j7,?_,q2,fx,?_,λu=>?_,?_⟩
       . rw[qb,if_neg hp];exact eb
       . unfold Instr.findAsking
         rw[h1]
         simp only[Sem.run_bind,hk.eq a p.1 w,decide_eq_false AL,Result.andThen_ok,Bool.false_eq_true,if_false]
         rw[gw];congr 3;omega
       . simp[lB,hp,h1,ah,hS]
       . simp[l',hp,h1,ah,oO]
theorem Ja{e2:TypeId}(hk:ui P e2 key)(a:α){es:Array MapEntry}{m:List (α×β)}(h:es.toList.map (λe=>(e.key,e.val))=m.map (λp=>(key p.1,val p.2)))(w:World):
 (gv m a=none/\(Instr.findKey e2 (key a) es.toList).run P w=.ok none w/\(∀u,lB m a u=m++[(a,u)])/\l' m a=m/\∀x∈es.toList,x.key≠key a) \/
 (∃j eP j7,gv m a=some eP/\es[j]?=some j7/\j7.key=key a/\(Instr.findKey e2 (key a) es.toList).run P w=.ok (some (j,val eP)) w /\
  (∀u,(es.modify j λe=>{ e with key:=key a,val:=val u }).toList.map (λe=>(e.key,e.val))=(lB m a u).map λp=>(key p.1,val p.2)) /\
  (es.eraseIdxIfInBounds j).toList.map (λe=>(e.key,e.val))=(l' m a).map λp=>(key p.1,val p.2)):=by
 obtain⟨kind,hu,aT⟩:=hk.aiC
 have Xm:(Instr.findKey e2 (key a) es.toList).run P w=(Instr.findAsking e2 (key a) es.toList 0).run P w:=by
  unfold Instr.findKey
  simp only[Sem.run_bind,run_underlying hu,Result.andThen_ok]
  cases aiD:es.toList with
  | nil=>rfl
  | cons e r =>
   have dG:Instr.findNow kind (key a) (e::r) 0=none:=by
    unfold Instr.findNow
    rw[aiD] at h
    cases m with
    | nil=>simp at h
    | cons p m =>
     simp only[List.map_cons,List.cons.injEq,Prod.mk.injEq] at h
     rw[h.1.1,aT]
   rw[dG]
 rcases Xl hk a w es.toList m 0 h with ⟨eb,q2,fx,gw,hS⟩|⟨j,eP,j7,eb,q2,fx,gw,hS,oO⟩
 . refine .inl ⟨eb,Xm.trans q2,fx,gw,λx ag e=>?_⟩
   have:(x.key,x.val)∈m.map (λp=>(key p.1,val p.2)):=by
    rw[<-h];exact List.mem_map.2 ⟨x,ag,rfl⟩
   obtain⟨p,hp,he⟩:=List.mem_map.1 this;simp only[Prod.mk.injEq] at he;exact hS p hp (hk.inj (he.1.trans e))
 . rw[Array.getElem?_toList] at q2;have bo:j<es.size:=(Array.getElem?_eq_some_iff.1 q2).1;refine .inr ⟨j,eP,j7,eb,q2,fx,?_,λu=>?_,?_⟩
   . rw[Xm,gw,Nat.zero_add]
   . rw[Array.toList_modify];exact hS u
   . unfold Array.eraseIdxIfInBounds;rw[dif_pos bo,Array.toList_eraseIdx];exact oO
theorem gB.NM{t e2 jk:TypeId}{x y z:Operand}{b:Nat}{m:List (α×β)}(a:α)(u:β)(hk:ui P e2 key)(a8:P.underlying t=some (.map e2 jk))(ag:aO E x=some (.map (some b)))(aD:aO E y=some (key a))(cO:aO E z=some (val u))(hm:kQ key val w b m)
 (eR:∀an,Mod (b_ (b+1)) w an->an.heap.size=w.heap.size->kQ key val an b (lB m a u)->K undef an):gB P ⟨d,.mapUpdate t x y z,ty,pos,af,gd⟩ E w K:=λs aw=>by
 obtain⟨es,c,h1,ah,aB⟩:=hm
 have aU:=yW (P:=P) h1
 rcases Ja (P:=P) hk a aB w with ⟨eb,q2,fx,gw,hS⟩|⟨j,eP,j7,eb,q2,fx,gw,hS,oO⟩
 . have h:=eR _ (AM w b (.map (es.push { key:=key a,val:=val u,born:=c }) (c+1))) dg ⟨es.push { key:=key a,val:=val u,born:=c },c+1,C_ h1,stamped_push ah hS,by
    rw[fx u];simp[aB]⟩
   simp[execOp,aw.aO ag,aw.aO aD,aw.aO cO,Instr.mapUpdate,run_underlying a8,aU,hk.q4,q2,setObj,Sem.run,h1,out]
   exact h
 . have mF:Stamped (es.modify j λe=>{ e with key:=key a,val:=val u }) c:=stamped_modify ah j _ (λ_ _=>rfl) λe _ he=>by
    rw[q2] at he;cases he;exact fx.symm
   have h:=eR _ (AM w b (.map (es.modify j λe=>{ e with key:=key a,val:=val u }) c)) dg ⟨_,c,C_ h1,mF,hS u⟩
   have k':Instr.keyThatStays (key a) (key a)=(pure (key a):Sem Value):=by
    unfold Instr.keyThatStays;rw[if_pos (hk.bits a)]
   simp[execOp,aw.aO ag,aw.aO aD,aw.aO cO,Instr.mapUpdate,run_underlying a8,aU,hk.q4,gw,q2,fx,k',setObj,Sem.run,h1,out]
   exact h
theorem gB.Xn{t e2 jk:TypeId}{ml:Array TypeId}{x y:Operand}{b:Nat}{m:List (α×β)}(a:α)(hk:ui P e2 key)(a8:P.underlying t=some (.map e2 jk))(Xo:ml[0]?=some t)(ag:aO E x=some (.map (some b)))(aD:aO E y=some (key a))(hm:kQ key val w b m)
 (eR:∀an,Mod (b_ (b+1)) w an->an.heap.size=w.heap.size->kQ key val an b (l' m a)->K (.tuple #[]) an):gB P ⟨d,.call { callee:=.builtin .delete,args:=#[x,y],argTypes:=ml },ty,pos,af,gd⟩ E w K:=λs aw=>by
 obtain⟨es,c,h1,ah,aB⟩:=hm
 have aU:=yW (P:=P) h1
 rcases Ja (P:=P) hk a aB w with ⟨eb,q2,fx,gw,hS⟩|⟨j,eP,j7,eb,q2,fx,gw,hS,oO⟩
 . have h:=eR _ (AM w b (.map es c)) dg ⟨es,c,C_ h1,ah,by rw[gw];exact aB⟩
   simp[execOp,resolve,invoke,builtin,aw.aO ag,aw.aO aD,Builtin.delete_,Xo,run_underlying a8,aU,hk.q4,q2,setObj,Sem.run,h1,out]
   exact h
 . have h:=eR _ (AM w b (.map (es.eraseIdxIfInBounds j) c)) dg ⟨_,c,C_ h1,stamped_erase ah j,oO⟩
   simp[execOp,resolve,invoke,builtin,aw.aO ag,aw.aO aD,Builtin.delete_,Xo,run_underlying a8,aU,hk.q4,gw,setObj,Sem.run,h1,out]
   exact h
theorem bx.Xp{t e2 jk:TypeId}{x y:Operand}{b:Nat}{m:List (α×β)}{a:α}{z:Value}(hk:ui P e2 key)(a8:P.underlying t=some (.map e2 jk))(cO:∀w,(zeroValue jk).run P w=.ok z w)(ag:aO E x=some (.map (some b)))(aD:aO E y=some (key a))(hm:∀w,C w->kQ key val w b m):
 bx P ⟨d,.lookup t x y true,ty,pos,af,gd⟩ E C (.tuple #[(match gv m a with|some u=>val u|none=>z),.bool (gv m a).isSome]):=λs aw w hC=>by
 obtain⟨es,c,h1,_,aB⟩:=hm w hC
 have aU:=yW (P:=P) h1
 rcases Ja (P:=P) hk a aB w with ⟨eb,q2,fx,gw,hS⟩|⟨j,eP,j7,eb,q2,fx,gw,hS,oO⟩
 . simp[execOp,aw.aO ag,aw.aO aD,Instr.lookup,run_underlying a8,aU,hk.q4,q2,cO,eb]
 . simp[execOp,aw.aO ag,aw.aO aD,Instr.lookup,run_underlying a8,aU,hk.q4,gw,eb]
theorem bx.aiE{t e2 jk:TypeId}{x y:Operand}{b:Nat}{m:List (α×β)}{a:α}{z:Value}(hk:ui P e2 key)(a8:P.underlying t=some (.map e2 jk))(cO:∀w,(zeroValue jk).run P w=.ok z w)(ag:aO E x=some (.map (some b)))(aD:aO E y=some (key a))(hm:∀w,C w->kQ key val w b m):
 bx P ⟨d,.lookup t x y false,ty,pos,af,gd⟩ E C (match gv m a with|some u=>val u|none=>z):=λs aw w hC=>by
 obtain⟨es,c,h1,_,aB⟩:=hm w hC
 have aU:=yW (P:=P) h1
 rcases Ja (P:=P) hk a aB w with ⟨eb,q2,fx,gw,hS⟩|⟨j,eP,j7,eb,q2,fx,gw,hS,oO⟩
 . simp[execOp,aw.aO ag,aw.aO aD,Instr.lookup,run_underlying a8,aU,hk.q4,q2,cO,eb]
 . simp[execOp,aw.aO ag,aw.aO aD,Instr.lookup,run_underlying a8,aU,hk.q4,gw,eb]
theorem bx.NN{t e2 jk:TypeId}{x y:Operand}{b:Nat}{m:List (α×β)}{a:α}{z:Value}{u:β}(hk:ui P e2 key)(a8:P.underlying t=some (.map e2 jk))(cO:∀w,(zeroValue jk).run P w=.ok z w)(ag:aO E x=some (.map (some b)))(aD:aO E y=some (key a))(hm:∀w,C w->kQ key val w b m)(aw:gv m a=some u):
 bx P ⟨d,.lookup t x y false,ty,pos,af,gd⟩ E C (val u):=by
 have h:=bx.aiE (d:=d) (ty:=ty) (pos:=pos) (af:=af) (gd:=gd) (val:=val) hk a8 cO ag aD hm;rw[aw] at h;exact h
theorem bx.aiF{t e2 jk:TypeId}{x y:Operand}{b:Nat}{m:List (α×β)}{a:α}{z:Value}{u:β}(hk:ui P e2 key)(a8:P.underlying t=some (.map e2 jk))(cO:∀w,(zeroValue jk).run P w=.ok z w)(ag:aO E x=some (.map (some b)))(aD:aO E y=some (key a))(hm:∀w,C w->kQ key val w b m)(aw:gv m a=some u):
 bx P ⟨d,.lookup t x y true,ty,pos,af,gd⟩ E C (.tuple #[val u,.bool true]):=by
 have h:=bx.Xp (d:=d) (ty:=ty) (pos:=pos) (af:=af) (gd:=gd) (val:=val) hk a8 cO ag aD hm;rw[aw] at h;exact h
theorem bx.aiG{t e2 jk:TypeId}{x y:Operand}{b:Nat}{m:List (α×β)}{a:α}{z:Value}(hk:ui P e2 key)(a8:P.underlying t=some (.map e2 jk))(cO:∀w,(zeroValue jk).run P w=.ok z w)(ag:aO E x=some (.map (some b)))(aD:aO E y=some (key a))(hm:∀w,C w->kQ key val w b m)(aw:gv m a=none):
 bx P ⟨d,.lookup t x y true,ty,pos,af,gd⟩ E C (.tuple #[z,.bool false]):=by
 have h:=bx.Xp (d:=d) (ty:=ty) (pos:=pos) (af:=af) (gd:=gd) (val:=val) hk a8 cO ag aD hm;rw[aw] at h;exact h
end
end Go.aH
set_option linter.unusedSectionVars false
namespace Go.aH
open Go
section
variable {α:Type}
def jx(enc:α->List Value)(e:TypeId)(sz:Nat)(w:World)(g:Nat)(v:Value)(l:List α):Prop:=
 (∃a,v=.slice a 0 0/\l=[]/\g=0) \/
 ∃b off cap X Y,g=b+1/\v=.slice (some ⟨b,off*sz,none⟩) l.length cap/\w.heap[b]?=some (.cells (X++l.flatMap enc++Y).toArray e (0,0))/\X.length=off*sz/\l.length<=cap/\Y.length=(cap-l.length)*sz/\off+cap<=maxLen
variable {enc:α->List Value} {e:TypeId} {sz:Nat} {w:World} {g:Nat} {v:Value} {l:List α}
theorem jx.nil:jx enc e sz w 0 (.slice none 0 0) []:=.inl ⟨_,rfl,rfl,rfl⟩
theorem jx.keep{M:Nat->Prop}{an:World}(h:jx enc e sz w g v l)(hm:Mod M w an)(aU:∀b,g=b+1->¬ M b):jx enc e sz an g v l:=by
 rcases h with h|⟨b,off,cap,X,Y,bK,h1,ah,aB⟩
 . exact .inl h
 . exact .inr ⟨b,off,cap,X,Y,bK,h1,hm.keep _ _ ah (aU b bK),aB⟩
theorem jx.lt(h:jx enc e sz w g v l):g<=w.heap.size:=by
 rcases h with ⟨_,_,_,h⟩|⟨b,off,cap,X,Y,bK,_,ah,_⟩
 . omega
 . have:=(Array.getElem?_eq_some_iff.1 ah).1;omega
theorem jx.ch(h:jx enc e sz w g v l):aq enc w (dq (g-1) g) v l:=by
 rcases h with ⟨a,h,gN,_⟩|⟨b,off,cap,X,Y,bK,h1,ah,aB,bE,c6,eZ⟩
 . subst gN;subst h;exact⟨a,0,rfl,Nat.le_refl _,Nat.zero_le _,.inl rfl⟩
 . refine⟨_,cap,h1,bE,by omega,.inr ⟨b,off*sz,rfl,by unfold dq;omega,λi u hu=>?_⟩⟩;rw[cell_of_row w b _ _ e (0,0) ah];rw[List.getElem?_toArray,List.append_assoc,List.getElem?_append_right aa,show off*sz+i-X.length=i from by omega,List.getElem?_append_left (List.getElem?_eq_some_iff.1 hu).1];exact hu
theorem NO{P:Program}{b:Nat}{e:TypeId}{w:World}{A B C vs:List Value}(h:w.heap[b]?=some (.cells (A++B++C).toArray e (0,0)))(bj:vs.length=B.length)(h1:∀v∈vs,v.oneCell'=true):
 ∃an,(storeCells ⟨b,A.length,none⟩ vs).run P w=.ok () an/\an.heap[b]?=some (.cells (A++vs++C).toArray e (0,0))/\Mod (λi=>i=b) w an/\an.heap.size=w.heap.size:=by
 have mF:=run_storeCells_at P b A.length e vs 0 _ w h (by simp[bj]) h1;refine⟨_,mF,?_,Hy _ _ _,by simp[World.setRow]⟩;rw[setRow_heap w b _ _ e _ h];congr 3
 simp only[Nat.add_zero,List.append_assoc,List.take_left];congr 1
 congr 1
 rw[show A.length+vs.length=(A++B).length from by rw[List.length_append,bj],<-List.append_assoc,List.drop_left]
theorem jx.append{P:Program}(h:jx enc e sz w g v l){t ty:TypeId}{fR:Bool}{by_:Nat}{z:List Value}(a8:P.underlying t=some (.slice e))(he:ey P e=some (fR,sz,by_,z))(cO:z.length=sz)
 (dI:∀x,(enc x).length=sz) (h1:∀x,(enc x).all (·.oneCell')=true) {F:Nat->Prop} {v2:Value} {dL:List α} (aT:aq enc w F v2 dL) (dG:dL≠[]) (xp:(l.length+dL.length)*by_<=140737488355328) (tM:l.length+dL.length<=maxLen) :
 ∃gQ fv an,(Builtin.append_ #[t,t] ty #[v,v2]).run P w=.ok gQ an/\jx enc e sz an fv gQ (l++dL)/\Mod (b_ g) w an/\(fv=g\/w.heap.size<fv):=by
 obtain⟨i,jD,jS,rJ,i2,i3,i4,i5,Ew,Su⟩:=Ch he
 have Hz:∀u∈dL.flatMap enc,u.oneCell'=true:=λu hu=>by
  obtain⟨x,_,ag⟩:=List.mem_flatMap.1 hu
  exact List.all_eq_true.1 (h1 x) u ag
 have dr:(dL.flatMap enc).length=dL.length*i.size:=(by rw[rF dI,i4]);have mm:(l.flatMap enc).length=l.length*i.size:=(by rw[rF dI,i4]);have v_:jS.cells.size=sz:=(by rw[<-Array.length_toList,Ew,cO]);have Sv:l.length+dL.length<=9223372036854775807:=tM;have CZ:1<=dL.length:=(by cases dL<;>simp_all);obtain⟨a2,As,rfl,Ex,aA,aT⟩:=aT
 obtain⟨aR,pz,rfl,bs,c3⟩:∃aR pz,a2=some (⟨aR,pz,none⟩:Addr)/\F aR/\Row w aR pz (dL.flatMap enc):=by
  rcases aT with h|⟨aR,pz,h1,ah,aB⟩
  . exact absurd h dG
  . exact⟨aR,pz,h1,ah,aB⟩
 have Ey:∀j u,(dL.flatMap enc)[j]?=some u->w.cell? ((⟨aR,pz,none⟩:Addr).add j)=some u:=λj u hu=>by
  rw[add_lit];exact c3.cell j u hu
 have NP:Src P i.size t (.slice (some ⟨aR,pz,none⟩) dL.length As) dL.length (dL.flatMap enc) w:=Src.ofSlice w a8 _ _ _ _ dr Ey Hz
 have fresh:∀(n':Nat),n'<l.length+dL.length->∀a1:World,a1=w.drew.alloc (.cells ((l.flatMap enc++dL.flatMap enc).toArray++Builtin.zeroCells jS.cells (grownCap w (l.length+dL.length) n' e-(l.length+dL.length))) e) ->
  jx enc e sz a1 (w.heap.size+1) (.slice (some ⟨w.heap.size,0,none⟩) (l.length+dL.length) (grownCap w (l.length+dL.length) n' e)) (l++dL)/\Mod (b_ g) w a1:=by
  intro n' eh a1 eG
  subst eG
  have yH:=grownCap_ge w (l.length+dL.length) n' e
  have sZ:grownCap w (l.length+dL.length) n' e<=maxLen:=grownCap_le_maxLen w (l.length+dL.length) n' e tM
  refine⟨.inr ⟨w.heap.size,0,_,[],(Builtin.zeroCells jS.cells (grownCap w (l.length+dL.length) n' e-(l.length+dL.length))).toList,rfl,by rw[List.length_append,Nat.zero_mul],?_,by simp,by rw[List.length_append];exact yH,?_,by omega⟩,?_⟩
  . refine(heap_alloc_new w.drew _).trans ?_
    congr 2
    apply Array.ext'
    simp[List.flatMap_append]
  . rw[Array.length_toList,size_zeroCells,v_,List.length_append]
  . exact(Mod.drew _ w).trans (Mod.alloc _ _ _)
 rcases h with ⟨a,rfl,rfl,rfl⟩|⟨b,off,cap,X,Y,rfl,rfl,aU,rU,uU,wH,sZ⟩
 . have hold:(Builtin.firstCells i.size 0 (.slice a 0 0)).run P w.drew=.ok (#[]:Array Value) w.drew:=by
    cases a<;>simp[Builtin.firstCells,loadCells,loadCellsFrom]
   have tO:dL.length*i.bytes<=140737488355328:=by
    have ab:=xp;simp only[List.length_nil,Nat.zero_add] at ab;rw[i5];exact ab
   have a':=run_append_grow_src (P:=P) w t t ty e i jS a8 rJ i3 a 0 0 [] hold _ _ _ NP aa aa (growslice_fits aa (by simpa using tO));have bB:=fresh 0 (by simp;omega) _ rfl;simp only[List.length_nil,Nat.zero_add,List.flatMap_nil,List.nil_append] at bB a';exact⟨_,_,_,a',bB.1,bB.2,.inr (Nat.lt_succ_self _)⟩
 . by_cases Ck:l.length+dL.length<=cap
   . have aN:(dL.flatMap enc).length<=Y.length:=by
      rw[dr,wH,i4];exact Nat.mul_le_mul_right _ aa
     obtain⟨an,eb,q2,fx,gw⟩:=NO (P:=P) (A:=X++l.flatMap enc) (B:=Y.take (dL.flatMap enc).length) (C:=Y.drop (dL.flatMap enc).length) (vs:=dL.flatMap enc) (b:=b) (e:=e) (w:=w) (by rw[List.append_assoc _ _ (Y.drop _),List.take_append_drop];exact aU) (by rw[List.length_take];omega) Hz;refine⟨.slice (some ⟨b,off*sz,none⟩) (l.length+dL.length) cap,b+1,an,?_,.inr ⟨b,off,cap,X,Y.drop (dL.flatMap enc).length,rfl,by rw[List.length_append],?_,rU,by rw[List.length_append];exact Ck,?_,sZ⟩,fx.weaken (λi ar _=>by unfold b_;omega),.inl rfl⟩
     . have bf:(X++l.flatMap enc).length=off*sz+l.length*i.size:=(by rw[List.length_append,rU,mm]);rw[bf] at eb;simp[Builtin.append_,run_underlying a8,sizeOf,typeInfo,rJ,Builtin.lenOf,Ck,NP.cells,Addr.add_lit,eb]
     . rw[q2,List.flatMap_append,List.append_assoc X]
     . rw[List.length_drop,wH,dr,i4,<-Nat.sub_mul,List.length_append];congr 1;omega
   . have holds:∀j u,(l.flatMap enc)[j]?=some u->w.drew.cell? ((⟨b,off*sz,none⟩:Addr).add j)=some u:=λj u hu=>by
      rw[add_lit,cell_of_row w.drew b _ _ e (0,0) aU,List.getElem?_toArray,List.append_assoc,List.getElem?_append_right aa,show off*sz+j-X.length=j from by omega,List.getElem?_append_left (List.getElem?_eq_some_iff.1 hu).1]
      exact hu
     have hold:=run_firstCells_some (P:=P) w.drew i.size l.length ⟨b,off*sz,none⟩ l.length cap (l.flatMap enc) mm holds;have a':=run_append_grow_src (P:=P) w t t ty e i jS a8 rJ i3 (some ⟨b,off*sz,none⟩) l.length cap (l.flatMap enc) hold _ _ _ NP aa aa (growslice_fits aa (by rw[i5];exact xp));have bB:=fresh cap aa _ rfl;exact⟨_,_,_,a',bB.1,bB.2,.inr (Nat.lt_succ_self _)⟩
theorem gB.aiH{P:Program}{E:Env}{d:Option Tmp}{ty:TypeId}{pos:String}{af:Array Edge}{gd:Option (Nat×Bool)}{K:Value->World->Prop}{t:TypeId}{x y:Operand}{fR:Bool}{by_:Nat}{z:List Value}{F:Nat->Prop}{v2:Value}{dL:List α}
 (h:jx enc e sz w g v l) (a8:P.underlying t=some (.slice e)) (he:ey P e=some (fR,sz,by_,z)) (cO:z.length=sz)
 (dI:∀x,(enc x).length=sz) (h1:∀x,(enc x).all (·.oneCell')=true) (ag:aO E x=some v) (aD:aO E y=some v2) (aT:aq enc w F v2 dL) (dG:dL≠[]) (xp:(l.length+dL.length)*by_<=140737488355328) (tM:l.length+dL.length<=maxLen)
 (eR:∀gQ fv an,jx enc e sz an fv gQ (l++dL)->Mod (b_ g) w an->(fv=g\/w.heap.size<fv)->K gQ an) :
 gB P ⟨d,.call { callee:=.builtin .append,args:=#[x,y],argTypes:=#[t,t] },ty,pos,af,gd⟩ E w K:=λa aw=>by
 obtain⟨gQ,fv,an,a',ah,aB,bE⟩:=h.append (ty:=ty) a8 he cO dI h1 aT dG xp tM
 simp only[execOp,resolve,invoke,builtin,Sem.run_bind,Sem.run_pure,Result.andThen_ok,List.map_toArray,List.map_cons,List.map_nil,aw.aO ag,aw.aO aD,a',out]
 exact eR _ _ _ ah aB bE
end
end Go.aH
namespace Go.aH
open Go
section
variable {α:Type} {enc:α->List Value} {e:TypeId} {sz:Nat} {w:World} {g:Nat} {v:Value} {l:List α}
theorem Jb(l:List α)(i:Nat):l.flatMap enc=(l.take i).flatMap enc++(l.drop i).flatMap enc:=by rw[<-List.flatMap_append,List.take_append_drop]
theorem aiI(l:List α)(i:Nat)(ar:i<l.length):l.flatMap enc=(l.take i).flatMap enc++(enc l[i]++(l.drop (i+1)).flatMap enc):=by rw[Jb l i,List.drop_eq_getElem_cons ar,List.flatMap_cons]
theorem Da{P:Program}{n cap:Nat}{c0 ar:Option Value}(i j:Nat)(Ci:(c0=none/\i=0)\/∃k n,c0=some (.int k n)/\n=(i:Int))(p3:(ar=none/\j=n)\/∃k m,ar=some (.int k m)/\m=(j:Int))(mY:i<=j)(bo:j<=n)(ao:n<=cap)(w:World):(Instr.sliceBounds true n cap c0 ar none).run P w=.ok (i,j,cap) w:=by
 rcases Ci with ⟨rfl,rfl⟩|⟨k,q,rfl,aN⟩<;>rcases p3 with ⟨rfl,rfl⟩|⟨ju,m,rfl,hm⟩
 . simp[Instr.sliceBounds]
 . simp[Instr.sliceBounds,tK _ hm (Nat.le_trans bo ao)]
 . simp[Instr.sliceBounds,tK _ aN mY]
 . simp[Instr.sliceBounds,tK _ hm (Nat.le_trans bo ao),tK _ aN mY]
theorem jx.from{P:Program}{t:TypeId}{by_:Nat}{fR:Bool}{z:List Value}(h:jx enc e sz w g v l)(a8:P.underlying t=some (.slice e))(he:ey P e=some (fR,sz,by_,z))(dI:∀x,(enc x).length=sz){k:IntKind}{n:Int}(i:Nat)(aN:n=(i:Int))(ar:i<=l.length):
 ∃gQ fv,(∀w,(Instr.sliceAt t v (some (.int k n)) none none).run P w=.ok gQ w)/\jx enc e sz w fv gQ (l.drop i)/\(fv=g\/fv=0):=by
 rcases h with ⟨a,rfl,rfl,rfl⟩|⟨b,off,cap,X,Y,rfl,rfl,aU,rU,uU,wH,sZ⟩
 . have vj:i=0:=(by simpa using ar);subst vj;refine⟨.slice a 0 0,0,λw=>?_,.inl ⟨a,rfl,by simp,rfl⟩,.inl rfl⟩;simp[Instr.sliceAt,Instr.slice,run_underlying a8,Da (n:=0) (cap:=0) 0 0 (.inr ⟨k,n,rfl,aN⟩) (.inl ⟨rfl,rfl⟩) (Nat.le_refl _) (Nat.le_refl _) (Nat.le_refl _) w,run_sizeOf he]
 . have Xq:∀w,(Instr.sliceAt t (.slice (some ⟨b,off*sz,none⟩) l.length cap) (some (.int k n)) none none).run P w=.ok (.slice (if cap=i then some ⟨b,off*sz,none⟩ else some ⟨b,off*sz+i*sz,none⟩) (l.length-i) (cap-i)) w:=λw=>by
    have ab:=Da (P:=P) (n:=l.length) (cap:=cap) i l.length (.inr ⟨k,n,rfl,aN⟩) (.inl ⟨rfl,rfl⟩) ar (Nat.le_refl _) uU w
    simp[Instr.sliceAt,Instr.slice,run_underlying a8,ab,run_sizeOf he,Addr.add_lit]
   by_cases ao:cap=i
   . have Jc:l.length=i:=(by omega);refine⟨_,0,Xq,.inl ⟨some ⟨b,off*sz,none⟩,?_,List.drop_of_length_le aa,rfl⟩,.inr rfl⟩;rw[if_pos ao,Jc,Nat.sub_self,ao,Nat.sub_self]
   . have tL:=rF dI (l.take i);rw[List.length_take,Nat.min_eq_left ar] at tL;refine⟨_,b+1,Xq,.inr ⟨b,off+i,cap-i,X++(l.take i).flatMap enc,Y,rfl,?_,?_,?_,?_,?_,by omega⟩,.inl rfl⟩
     . rw[if_neg ao,List.length_drop,Nat.add_mul]
     . rw[aU,Jb (enc:=enc) l i];simp only[List.append_assoc]
     . rw[List.length_append,rU,tL,Nat.add_mul]
     . rw[List.length_drop];omega
     . rw[wH,List.length_drop];congr 1;omega
theorem jx.upto{P:Program}{t:TypeId}{by_:Nat}{fR:Bool}{z:List Value}(h:jx enc e sz w g v l)(a8:P.underlying t=some (.slice e))(he:ey P e=some (fR,sz,by_,z))(dI:∀x,(enc x).length=sz){k:IntKind}{n:Int}(j:Nat)(aN:n=(j:Int))(bo:j<=l.length):
 ∃gQ,(∀w,(Instr.sliceAt t v none (some (.int k n)) none).run P w=.ok gQ w)/\jx enc e sz w g gQ (l.take j):=by
 rcases h with ⟨a,rfl,rfl,rfl⟩|⟨b,off,cap,X,Y,rfl,rfl,aU,rU,uU,wH,sZ⟩
 . have Fq:j=0:=(by simpa using bo);subst Fq;refine⟨.slice a 0 0,λw=>?_,.inl ⟨a,rfl,by simp,rfl⟩⟩;simp[Instr.sliceAt,Instr.slice,run_underlying a8,Da (n:=0) (cap:=0) 0 0 (.inl ⟨rfl,rfl⟩) (.inr ⟨k,n,rfl,aN⟩) (Nat.le_refl _) (Nat.le_refl _) (Nat.le_refl _) w,run_sizeOf he]
 . have tL:=rF dI (l.drop j);refine⟨.slice (some ⟨b,off*sz,none⟩) j cap,λw=>?_,.inr ⟨b,off,cap,X,(l.drop j).flatMap enc++Y,rfl,by rw[List.length_take,Nat.min_eq_left bo],?_,rU,by rw[List.length_take];omega,?_,sZ⟩⟩
   . have ab:=Da (P:=P) (n:=l.length) (cap:=cap) 0 j (.inl ⟨rfl,rfl⟩) (.inr ⟨k,n,rfl,aN⟩) (Nat.zero_le _) bo uU w;simp[Instr.sliceAt,Instr.slice,run_underlying a8,ab,run_sizeOf he,Addr.add_lit]
   . rw[aU,Jb (enc:=enc) l j];simp only[List.append_assoc]
   . rw[List.length_append,tL,wH,List.length_drop,List.length_take,Nat.min_eq_left bo,<-Nat.add_mul];congr 1;omega
theorem jx.at{P:Program}{t:TypeId}{by_:Nat}{fR:Bool}{z:List Value}(h:jx enc e sz w g v l)(a8:P.underlying t=some (.slice e))(he:ey P e=some (fR,sz,by_,z))(dI:∀x,(enc x).length=sz){k:IntKind}{n:Int}(i:Nat)(aN:n=(i:Int))(ar:i<l.length):
 ∃b off x,(∀w,(Instr.indexAt t v (.int k n)).run P w=.ok (ptr b off) w)/\l[i]?=some x/\g=b+1/\Row w b off (enc x) /\
  ∀a1,jx enc e sz a1 g v l->∃A C,A.length=off/\a1.heap[b]?=some (.cells (A++enc x++C).toArray e (0,0))/\∀(q3:α) (an:World),an.heap[b]?=some (.cells (A++enc q3++C).toArray e (0,0))->jx enc e sz an g v (l.set i q3):=by
 have hT:=h.ch;rcases h with ⟨a,rfl,rfl,rfl⟩|⟨b,off,cap,X,Y,rfl,rfl,aU,rU,uU,wH,sZ⟩
 . simp at ar
 . obtain⟨sl,SB,a',ab,rQ⟩:=hT.at a8 he dI (k:=k) i aN ar;have bK:(0:Int)<=n/\n<(l.length:Int):=(by omega);have fS:n.toNat=i:=by omega
   have c3:(Instr.indexAt t (.slice (some ⟨b,off*sz,none⟩) l.length cap) (.int k n)).run P w=.ok (ptr b (off*sz+i*sz)) w:=by
    simp[Instr.indexAt,asIntOf,run_underlying a8,bK,run_sizeOf he,add_lit,ptr,fS]
   have heq:=(a' w).symm.trans c3;simp only[ptr,Result.ok.injEq,Value.pointer.injEq,Option.some.injEq,Addr.mk.injEq,and_true] at heq;obtain⟨rfl,rfl⟩:=heq;refine⟨_,_,l[i],a',by simp,rfl,rQ,λa1 ah=>?_⟩;rcases ah with ⟨_,_,_,ag⟩|⟨aR,pz,As,Xr,Xs,td,bC,aiJ,Xt,HW,aiK,aiL⟩
   . omega
   . simp only[Value.slice.injEq,Option.some.injEq,Addr.mk.injEq,and_true,true_and] at bC;obtain⟨⟨rfl,tW⟩,rfl⟩:=bC;have tL:=rF dI (l.take i);rw[List.length_take,Nat.min_eq_left aa] at tL;refine⟨Xr++(l.take i).flatMap enc,(l.drop (i+1)).flatMap enc++Xs,by rw[List.length_append,Xt,tL,tW],?_,λq3 an aiM=>?_⟩
     . rw[aiJ];rw[aiI (enc:=enc) l i ar];simp only[List.append_assoc]
     . refine .inr ⟨sl,pz,cap,Xr,Xs,rfl,?_,?_,Xt,by rw[List.length_set];exact HW,by rw[List.length_set];exact aiK,aiL⟩
       . rw[List.length_set,tW]
       . rw[aiM];congr 3
         rw[List.set_eq_take_append_cons_drop,if_pos ar];simp[List.flatMap_append,List.flatMap_cons,List.append_assoc]
theorem gB.aiN{P:Program}{E:Env}{d:Option Tmp}{ty:TypeId}{pos:String}{af:Array Edge}{gd:Option (Nat×Bool)}{K:Value->World->Prop}{t:TypeId}{x y:Operand}{u:Value}{b off by_ i:Nat}{fR:Bool}{z:List Value}{n':α}
 (h:jx enc e sz w g v l) (aU:g=b+1) (na:∀a1,jx enc e sz a1 g v l->∃A C,A.length=off/\a1.heap[b]?=some (.cells (A++enc n'++C).toArray e (0,0))/\∀(q3:α) (an:World),an.heap[b]?=some (.cells (A++enc q3++C).toArray e (0,0))->jx enc e sz an g v (l.set i q3))
 (dI:∀x,(enc x).length=sz) (eh:∀x,(enc x).all (·.oneCell')=true) (q3:α) (a8:ey P t=some (fR,sz,by_,z)) (ag:aO E x=some (ptr b off)) (aD:aO E y=some u) (cI:u.cells.toList=enc q3)
 (eR:∀an,Mod (b_ g) w an->an.heap.size=w.heap.size->jx enc e sz an g v (l.set i q3)->K undef an):gB P ⟨d,.store t x y,ty,pos,af,gd⟩ E w K:=λa aw=>by
 obtain⟨A,C,h1,ah,aB⟩:=na w h
 subst h1 aU
 obtain⟨an,eb,q2,fx,gw⟩:=NO (P:=P) (vs:=enc q3) ah (by rw[dI,dI]) (λu hu=>List.all_eq_true.1 (eh q3) u hu)
 have aT:u.cells.size=sz:=by rw[<-Array.length_toList,cI,dI]
 have hk:=eR an (fx.weaken λi ar _=>by unfold b_;omega) gw (aB q3 an q2)
 simp[execOp,aw.aO ag,aw.aO aD,ptr,Instr.storeAt,Instr.sureAddr,storeVar,run_sizeOf a8,aT,cI,eb,out]
 exact hk
theorem Xu{z:Array Value}{x:α}(cO:z.toList=enc x)(bK:0<z.size):∀n:Nat,(Builtin.zeroCells z n).toList=(List.replicate n x).flatMap enc
 | 0=>by simp[Builtin.zeroCells]
 | n+1=>by
  have b':=Xu cO bK n
  rw[List.replicate_succ',List.flatMap_append,<-b']
  unfold Builtin.zeroCells
  simp only[Array.toList_map,Array.toList_range,Nat.add_mul,Nat.one_mul,List.flatMap_cons,List.flatMap_nil,List.append_nil]
  rw[List.range_add,List.map_append,<-cO]
  congr 1
  rw[List.map_map]
  apply List.ext_getElem
  . simp
  . intro j h1 ah
    simp only[List.getElem_map,List.getElem_range,Function.comp_apply,Array.getElem_toList]
    have bo:j<z.size:=by simpa using ah
    rw[Nat.mul_comm,Nat.mul_add_mod,Nat.mod_eq_of_lt bo,getElem!_pos z j bo]
theorem gB.aiO{P:Program}{E:Env}{d:Option Tmp}{ty:TypeId}{pos:String}{af:Array Edge}{gd:Option (Nat×Bool)}{K:Value->World->Prop}{t:TypeId}{x:Operand}{by_:Nat}{fR:Bool}{z:List Value}{jS:Value}{v2:Value}{k:IntKind}{n:Int}{i:Nat}
 (h:jx enc e sz w g v l) (a8:P.underlying t=some (.slice e)) (he:ey P e=some (fR,sz,by_,z)) (dI:∀x,(enc x).length=sz) (eh:∀x,(enc x).all (·.oneCell')=true) (CZ:0<sz) (aN:n=(i:Int)) (ar:i<=l.length)
 (kl:∀w,(Instr.sliceAt t v (some (.int k n)) none none).run P w=.ok v2 w) (Db:α) (cO:∀w,(zeroValue e).run P w=.ok jS w) (IN:jS.cells.toList=enc Db) (ag:aO E x=some v2)
 (eR:∀an,Mod (b_ g) w an->an.heap.size=w.heap.size->jx enc e sz an g v (l.take i++List.replicate (l.length-i) Db)->K (.tuple #[]) an):gB P ⟨d,.call { callee:=.builtin .clear,args:=#[x],argTypes:=#[t] },ty,pos,af,gd⟩ E w K:=λs aw=>by
 have v_:jS.cells.size=sz:=by rw[<-Array.length_toList,IN,dI]
 rcases h with ⟨a,rfl,rfl,rfl⟩|⟨b,off,cap,X,Y,rfl,rfl,aU,rU,uU,wH,sZ⟩
 . have vj:i=0:=by simpa using ar
   subst vj
   have jd:=(kl w).symm.trans (show(Instr.sliceAt t (.slice a 0 0) (some (.int k n)) none none).run P w=.ok (.slice a 0 0) w by
    simp[Instr.sliceAt,Instr.slice,run_underlying a8,Da (n:=0) (cap:=0) 0 0 (.inr ⟨k,n,rfl,aN⟩) (.inl ⟨rfl,rfl⟩) (Nat.le_refl _) (Nat.le_refl _) (Nat.le_refl _) w,run_sizeOf he])
   simp only[Result.ok.injEq,and_true] at jd
   subst jd
   have hk:=eR w (Mod.refl _ _) rfl (.inl ⟨a,rfl,by simp,rfl⟩)
   cases a<;>simp[execOp,resolve,invoke,builtin,aw.aO ag,Builtin.clear_,run_underlying a8,out]<;>exact hk
 . have ab:=Da (P:=P) (n:=l.length) (cap:=cap) i l.length (.inr ⟨k,n,rfl,aN⟩) (.inl ⟨rfl,rfl⟩) ar (Nat.le_refl _) uU w
   have jd:=(kl w).symm.trans (show(Instr.sliceAt t (.slice (some ⟨b,off*sz,none⟩) l.length cap) (some (.int k n)) none none).run P w=.ok (.slice (if cap=i then some ⟨b,off*sz,none⟩ else some ⟨b,off*sz+i*sz,none⟩) (l.length-i) (cap-i)) w by
    simp[Instr.sliceAt,Instr.slice,run_underlying a8,ab,run_sizeOf he,Addr.add_lit])
   simp only[Result.ok.injEq,and_true] at jd
   subst jd
   by_cases Jc:l.length-i=0
   . have dr:l.take i++List.replicate (l.length-i) Db=l:=by rw[Jc,List.take_of_length_le aa];simp
     have hk:=eR w (Mod.refl _ _) rfl (by rw[dr];exact .inr ⟨b,off,cap,X,Y,rfl,rfl,aU,rU,uU,wH,sZ⟩)
     rw[Jc] at ag
     by_cases ao:cap=i
     . simp[ao] at ag
       simp[execOp,resolve,invoke,builtin,aw.aO ag,Builtin.clear_,run_underlying a8,out];exact hk
     . simp[ao] at ag
       simp[execOp,resolve,invoke,builtin,aw.aO ag,Builtin.clear_,run_underlying a8,out];exact hk
   . have ao:cap≠i:=by omega
     have Dc:=rF dI (l.take i)
     rw[List.length_take,Nat.min_eq_left ar] at Dc
     have sy:=rF dI (l.drop i)
     rw[List.length_drop] at sy
     have vY:(Builtin.zeroCells jS.cells (l.length-i)).toList=(List.replicate (l.length-i) Db).flatMap enc:=Xu IN aa _
     have HE:=rF dI (List.replicate (l.length-i) Db)
     rw[List.length_replicate] at HE
     obtain⟨an,eb,q2,fx,gw⟩:=NO (P:=P) (A:=X++(l.take i).flatMap enc) (B:=(l.drop i).flatMap enc) (C:=Y) (vs:=(List.replicate (l.length-i) Db).flatMap enc) (b:=b) (e:=e) (w:=w) (by rw[List.append_assoc X,<-Jb];exact aU) (by rw[HE,sy]) (λu hu=>by
      obtain⟨x,_,ag⟩:=List.mem_flatMap.1 hu
      exact List.all_eq_true.1 (eh x) u ag)
     rw[List.length_append,rU,Dc] at eb
     have hk:=eR an (fx.weaken λi ar _=>by unfold b_;omega) gw (.inr ⟨b,off,cap,X,Y,rfl,by simp[Nat.min_eq_left ar];omega,by rw[q2,List.flatMap_append,List.append_assoc X],rU,by simp[Nat.min_eq_left ar];omega,by rw[wH];congr 1;simp[Nat.min_eq_left ar];omega,sZ⟩)
     simp only[if_neg ao] at ag
     obtain⟨q,dH⟩:∃q,l.length-i=q+1:=⟨l.length-i-1,by omega⟩
     rw[<-vY] at eb
     rw[dH] at ag eb
     simp[execOp,resolve,invoke,builtin,aw.aO ag,Builtin.clear_,run_underlying a8,cO,eb,out]
     exact hk
end
section
variable {R bS:Nat->Prop} {w0 w an:World} {L:List (dk R)} {i:Nat} {α:Type} {enc:α->List Value} {e:TypeId} {sz:Nat} {v:Value} {l:List α}
def lC(enc:α->List Value)(e:TypeId)(sz:Nat)(v:Value)(l:List α):dk R:=
 ⟨λF w=>∃g,jx enc e sz w g v l/\∀b,b+1=g->F b,λ⟨g,h1,ah⟩ hm bs _=>⟨g,h1.keep hm λb ab=>bs b (ah b ab.symm),ah⟩⟩
theorem au.Dd(h:au R bS w0 w L)(ar:L[i]?=some (lC enc e sz v l)):∃g,jx enc e sz w g v l/\g<=w.heap.size/\∀(an:World) (fv:Nat) (gQ:Value) (jV:List α),Mod (b_ g) w an->jx enc e sz an fv gQ jV->(fv=g\/fv=0\/w.heap.size<fv)->au R bS w0 an (L.set i (lC enc e sz gQ jV)):=by
 obtain⟨F,⟨g,h1,aB⟩,ah,k⟩:=h.act ar;refine⟨g,h1,h1.lt,λan fv gQ jV hm aw aU=>k an (λb=>b+1=fv) _ (hm.weaken λb ab _=>aB b ab) ⟨fv,aw,λb ab=>ab⟩ λb ab=>⟨?_,?_⟩⟩
 . have:=aw.lt;omega
 . rcases aU with aU|aU|aU
   . exact .inl (aB b aa)
   . omega
   . exact .inr aa
theorem au.Fw(h:au R bS w0 w L)(ar:L[i]?=some (lC enc e sz v l)):aq enc w (dq 0 w.heap.size) v l:=by
 obtain⟨g,h1,ah,_⟩:=h.Dd ar;exact h1.ch.cB (Nat.zero_le _) ah
theorem aiP{F:Nat->Prop}(h:(lC (R:=R) enc e sz v l).p F w):aq enc w F v l:=by
 obtain⟨g,h1,ah⟩:=h;refine h1.ch.mono λb ab=>ah b ?_
 rcases h1 with ⟨_,_,_,bE⟩|⟨sl,off,cap,X,Y,bK,_⟩
 . unfold dq at ab;omega
 . unfold dq at ab;omega
end
end Go.aH
namespace Go.ak
open Go.aH
structure bc where
 slot:Int
 query:Int
 shard:Int
 seq:Int
 fP:Int
 text:aj
 k:Int
 batch:Int
 first:Bool
 after:b1
 deriving DecidableEq
def aiQ(a b c d e:Int)(t:aj)(k n:Int)(f:Bool)(x:Int)(s:aj):bc:=⟨a,b,c,d,e,t,k,n,f,⟨x,s⟩⟩
def eC(a:bc):List Value:=[.int .i64 a.slot,.int .i64 a.query,.int .i64 a.shard,.int .i64 a.seq,.int .i64 a.fP,aE a.text,.int .i64 a.k,.int .i64 a.batch,.bool a.first,.int .i64 a.after.ck,aE a.after.word]
theorem qE(a:bc):(eC a).length=11:=rfl
theorem De(a:bc):(eC a).all (·.oneCell')=true:=rfl
def lg(a:bc):Value:=.agg (eC a).toArray
def NQ:bc:=⟨0,0,0,0,0,[],0,0,false,⟨0,[]⟩⟩
def bc.pl(a:bc):Int×Int:=(a.slot,a.shard)
def k2(p:Int×Int):List Value:=[.int .i64 p.1,.int .i64 p.2]
theorem vk(p:Int×Int):(k2 p).length=2:=rfl
theorem NR(p:Int×Int):(k2 p).all (·.oneCell')=true:=rfl
def lD(p:Int×Int):Value:=.agg #[.int .i64 p.1,.int .i64 p.2]
structure bc.Ok(a:bc):Prop where
 slot:bY a.slot
 query:bY a.query
 shard:bY a.shard
 seq:bY a.seq
 fP:bY a.fP
 k:bY a.k
 batch:bY a.batch
 ck:bY a.after.ck
def Jd(a:bc):Bool:=decide (0<=a.slot/\a.slot<4/\0<=a.shard/\a.shard<6)
def lh(q:List bc)(p:Int×Int):Option bc:=q.find? λx=>decide (x.pl=p)
def Fx(x a:bc):Bool:=decide (x.query>a.query\/x.query=a.query/\x.seq>a.seq)
def nn(q:List bc)(a:bc):Bool:=Jd a && (match lh q a.pl with|some x=>!Fx x a|none=>true)
def gb(q:List bc)(a:bc):List bc:=
 if nn q a=true then(match lh q a.pl with|some _=>q.map λx=>if x.pl=a.pl then a else x|none=>q++[a]) else q
def uj(slot query:Int)(x:bc):Bool:=decide (x.slot=slot/\x.query<=query)
def lj(q:List bc)(slot query:Int):List bc:=q.filter λx=>!uj slot query x
structure jm(m:List ((Int×Int)×bc))(q:List bc):Prop where
 keys:(m.map Prod.fst).Nodup
 at_:∀p,gv m p=lh q p
 vl:(q.map bc.pl).Nodup
theorem jm.nil:jm [] []:=⟨by simp,λp=>rfl,by simp⟩
section
variable {α β:Type} [DecidableEq α]
theorem Xv(m:List (α×β))(a b:α)(u:β):gv (lB m a u) b=if a=b then some u else gv m b:=by
 induction m with
 | nil =>
  unfold lB;rw[qb]
 | cons p m b' =>
  unfold lB;by_cases h:p.1=a
  . rw[if_pos h,qb,qb];by_cases ab:a=b
    . rw[if_pos ab,if_pos ab]
    . rw[if_neg ab,if_neg ab,if_neg (λe=>ab (h.symm.trans e))]
  . rw[if_neg h,qb,qb,b'];by_cases ab:a=b
    . rw[if_pos ab,if_neg (λe=>h (e.trans ab.symm)),if_pos ab]
    . rw[if_neg ab,if_neg ab]
theorem aiR(m:List (α×β))(a:α)(u:β):(lB m a u).map Prod.fst=if a∈m.map Prod.fst then m.map Prod.fst else m.map Prod.fst++[a]:=by
 induction m with
 | nil=>simp[lB]
 | cons p m b' =>
  unfold lB;by_cases h:p.1=a
  . rw[if_pos h];simp[h]
  . rw[if_neg h,List.map_cons,b'];by_cases hm:a∈m.map Prod.fst
    . rw[if_pos hm,if_pos (by simp only[List.map_cons,List.mem_cons];exact .inr hm)];rfl
    . rw[if_neg hm,if_neg (by simp only[List.map_cons,List.mem_cons,not_or];exact⟨λe=>h e.symm,hm⟩)];rfl
theorem Xw{m:List (α×β)}{a:α}{u:β}(h:(m.map Prod.fst).Nodup):((lB m a u).map Prod.fst).Nodup:=by
 rw[aiR];split
 . exact h
 . rename_i hm;rw[List.nodup_append];exact⟨h,by simp,λx ag y aD=>by simp only[List.mem_singleton] at aD;subst aD;exact λe=>hm (e▸ag)⟩
theorem aiS(m:List (α×β))(a:α):(l' m a).Sublist m:=by
 induction m with
 | nil=>exact List.Sublist.refl _
 | cons p m b' =>
  unfold l';split
  . exact List.sublist_cons_self _ _
  . exact b'.cons_cons _
theorem Np{m:List (α×β)}{a:α}(h:a∉m.map Prod.fst):gv m a=none:=by
 induction m with
 | nil=>rfl
 | cons p m b' =>
  simp only[List.map_cons,List.mem_cons,not_or] at h;rw[qb,if_neg (λe=>h.1 e.symm),b' h.2]
theorem aiT{m:List (α×β)}(h:(m.map Prod.fst).Nodup)(a b:α):gv (l' m a) b=if a=b then none else gv m b:=by
 induction m with
 | nil=>simp[l',aiz]
 | cons p m b' =>
  rw[List.map_cons,List.nodup_cons] at h;unfold l';by_cases hp:p.1=a
  . rw[if_pos hp,qb];by_cases ab:a=b
    . rw[if_pos ab,<-ab,<-hp];exact Np h.1
    . rw[if_neg ab,if_neg (λe=>ab (hp.symm.trans e))]
  . rw[if_neg hp,qb,qb,b' h.2];by_cases ab:a=b
    . rw[if_pos ab,if_neg (λe=>hp (e.trans ab.symm)),if_pos ab]
    . rw[if_neg ab,if_neg ab]
theorem aiU{m:List (α×β)}{a:α}(h:(m.map Prod.fst).Nodup):((l' m a).map Prod.fst).Nodup:=h.sublist ((aiS m a).map _)
end
theorem Je{q:List bc}(h:(q.map bc.pl).Nodup){x:bc}(ag:x∈q):lh q x.pl=some x:=by
 induction q with
 | nil=>simp at ag
 | cons y q b' =>
  rw[List.map_cons,List.nodup_cons] at h;unfold lh;rw[List.find?_cons];by_cases e:y.pl=x.pl
  . rcases List.mem_cons.1 ag with rfl|ag
    . simp
    . exact absurd (List.mem_map.2 ⟨x,ag,e.symm⟩) h.1
  . rcases List.mem_cons.1 ag with rfl|ag
    . exact absurd rfl e
    . rw[decide_eq_false e];exact b' h.2 ag
theorem aiV(q:List bc)(a:bc)(p:Int×Int):lh (q++[a]) p=match lh q p with|some x=>some x|none=>if a.pl=p then some a else none:=by
 unfold lh;rw[List.find?_append]
 cases q.find? (λx=>decide (x.pl=p)) with
 | some x=>rfl
 | none =>
  by_cases h:a.pl=p
  . simp[h]
  . simp[h]
theorem aiW{q:List bc}{p:Int×Int}(h:lh q p=none):p∉q.map bc.pl:=λhm=>by
 obtain⟨x,ag,rfl⟩:=List.mem_map.1 hm
 have:=List.find?_eq_none.1 h x ag
 simp at this
theorem NS(q:List bc)(a:bc):(q.map λx=>if x.pl=a.pl then a else x).map bc.pl=q.map bc.pl:=by
 rw[List.map_map];refine List.map_congr_left λx _=>?_
 simp only[Function.comp_apply];split
 . rename_i h;exact h.symm
 . rfl
theorem aiX{q:List bc}{a:bc}(p:Int×Int):lh (q.map λx=>if x.pl=a.pl then a else x) p=if a.pl=p then(match lh q p with|some _=>some a|none=>none) else lh q p:=by
 induction q with
 | nil=>unfold lh;simp
 | cons y q b' =>
  unfold lh at b' ⊢;rw[List.map_cons,List.find?_cons,List.find?_cons];by_cases aD:y.pl=a.pl
  . rw[if_pos aD];by_cases hp:a.pl=p
    . simp[hp,aD.trans hp]
    . rw[if_neg hp] at b';simp only[decide_eq_false hp,decide_eq_false (show ¬ y.pl=p from λe=>hp (aD.symm.trans e)),if_neg hp];exact b'
  . rw[if_neg aD];by_cases hp:y.pl=p
    . simp only[decide_eq_true hp];rw[if_neg (λe=>aD (hp.trans e.symm))]
    . simp only[decide_eq_false hp];exact b'
theorem jm.put{m:List ((Int×Int)×bc)}{q:List bc}{a x:bc}(h:jm m q)(ag:lh q a.pl=some x):jm (lB m a.pl a) (q.map λx=>if x.pl=a.pl then a else x):=by
 refine⟨Xw h.keys,λp=>?_,by rw[NS];exact h.vl⟩;rw[Xv,aiX,h.at_];by_cases hp:a.pl=p
 . rw[if_pos hp,if_pos hp,<-hp,ag]
 . rw[if_neg hp,if_neg hp]
theorem jm.add{m:List ((Int×Int)×bc)}{q:List bc}{a:bc}(h:jm m q)(ag:lh q a.pl=none):jm (lB m a.pl a) (q++[a]):=by
 refine⟨Xw h.keys,λp=>?_,?_⟩
 . rw[Xv,aiV,h.at_];by_cases hp:a.pl=p
   . rw[if_pos hp,<-hp,ag];simp
   . rw[if_neg hp]
     cases lh q p with
     | some _=>rfl
     | none=>simp[hp]
 . rw[List.map_append,List.nodup_append];exact⟨h.vl,by simp,λx te y aD=>by simp only[List.map_cons,List.map_nil,List.mem_singleton] at aD;subst aD;exact λe=>aiW ag (e▸te)⟩
theorem aiY{q:List bc}(h:(q.map bc.pl).Nodup){a:bc}(p:Int×Int):lh (q.filter λx=>decide (x.pl≠a.pl)) p=if a.pl=p then none else lh q p:=by
 induction q with
 | nil=>unfold lh;simp
 | cons y q b' =>
  rw[List.map_cons,List.nodup_cons] at h;have b':=b' h.2;unfold lh at b' ⊢;rw[List.filter_cons,List.find?_cons];by_cases aD:y.pl=a.pl
  . rw[if_neg (by simp[aD]),b'];by_cases hp:a.pl=p
    . rw[if_pos hp,if_pos hp]
    . rw[if_neg hp,if_neg hp,decide_eq_false (λe=>hp (aD.symm.trans e))]
  . rw[if_pos (by simp[aD]),List.find?_cons];by_cases hp:y.pl=p
    . rw[decide_eq_true hp];simp only;rw[if_neg (λe=>aD (hp.trans e.symm))]
    . rw[decide_eq_false hp];simp only;exact b'
theorem jm.del{m:List ((Int×Int)×bc)}{q:List bc}{a:bc}(h:jm m q):jm (l' m a.pl) (q.filter λx=>decide (x.pl≠a.pl)):=by
 refine⟨aiU h.keys,λp=>?_,h.vl.sublist ((List.filter_sublist).map _)⟩;rw[aiT h.keys,aiY h.vl,h.at_]
theorem Xx{q:List bc}{a:bc}(h:((a::q).map bc.pl).Nodup):(a::q).filter (λx=>decide (x.pl≠a.pl))=q:=by
 rw[List.map_cons,List.nodup_cons] at h;rw[List.filter_cons_of_neg dg,List.filter_eq_self.2];intro x ag;simp only[ne_eq,decide_eq_true_eq];exact λe=>h.1 (List.mem_map.2 ⟨x,ag,e⟩)
theorem jm.pop{m:List ((Int×Int)×bc)}{q:List bc}{a:bc}(h:jm m (a::q)):jm (l' m a.pl) q:=by
 have:=h.del (a:=a);rwa[Xx h.vl] at this
theorem jm.head{m:List ((Int×Int)×bc)}{q:List bc}{a:bc}(h:jm m (a::q)):gv m a.pl=some a:=by
 rw[h.at_];exact Je h.vl dg
theorem jm.mem{m:List ((Int×Int)×bc)}{q:List bc}{a:bc}(h:jm m q)(aw:a∈q):gv m a.pl=some a:=by
 rw[h.at_];exact Je h.vl aw
theorem jm.Cr{m:List ((Int×Int)×bc)}{q:List bc}{k:Nat}{p:Int×Int}(h:jm m q)(hp:(q.map bc.pl)[k]?=some p):∃a,q[k]?=some a/\a.pl=p/\gv m p=some a:=by
 rw[List.getElem?_map] at hp
 cases aw:q[k]? with
 | none=>rw[aw] at hp;cases hp
 | some a =>
  rw[aw] at hp;simp only[Option.map_some,Option.some.injEq] at hp;subst hp;exact⟨a,rfl,rfl,h.mem (List.mem_of_getElem? aw)⟩
section
variable {b3 α:Type}
def kR(f:b3->α->b3×Bool)(s:b3)(l:List α):b3:=l.foldl (λs x=>(f s x).1) s
def o6(f:b3->α->b3×Bool):b3->List α->List α
 | _,[]=>[]
 | s,x::r=>(if (f s x).2=true then[] else[x])++o6 f (f s x).1 r
theorem aiZ(f:b3->α->b3×Bool)(s:b3)(l:List α)(x:α):kR f s (l++[x])=(f (kR f s l) x).1:=by unfold kR;rw[List.foldl_append];rfl
theorem Xy(f:b3->α->b3×Bool):∀(l:List α) (s:b3) (x:α),o6 f s (l++[x])=o6 f s l++(if (f (kR f s l) x).2=true then[] else[x])
 | [],s,x=>by show(if (f s x).2=true then[] else[x])++[]=[]++(if (f s x).2=true then[] else[x]);simp
 | y::l,s,x=>by
  simp only[List.cons_append,o6]
  rw[Xy f l]
  simp only[List.append_assoc];rfl
def Ba(ok:b3->α->Prop)(f:b3->α->b3×Bool):b3->List α->Prop
 | _,[]=>True
 | s,x::r=>ok s x/\Ba ok f (f s x).1 r
theorem Ba.get{ok:b3->α->Prop}{f:b3->α->b3×Bool}:∀{l:List α} {s:b3} {k:Nat} {x:α},Ba ok f s l->l[k]?=some x->ok (kR f s (l.take k)) x
 | [],s,k,x,_,ag=>by simp at ag
 | y::l,s,0,x,h,ag=>by
  simp only[List.getElem?_cons_zero,Option.some.injEq] at ag
  subst ag;exact h.1
 | y::l,s,k+1,x,h,ag=>by
  simp only[List.getElem?_cons_succ] at ag
  exact Ba.get (l:=l) (s:=(f s y).1) (k:=k) h.2 ag
theorem Jf{f:b3->α->b3×Bool}{s:b3}{l:List α}{k:Nat}{x:α}(ag:l[k]?=some x):kR f s (l.take (k+1))=(f (kR f s (l.take k)) x).1:=by
 rw[List.take_add_one,ag];exact aiZ f s _ x
theorem Jg{f:b3->α->b3×Bool}{s:b3}{l:List α}{k:Nat}{x:α}(ag:l[k]?=some x):o6 f s (l.take (k+1))=o6 f s (l.take k)++(if (f (kR f s (l.take k)) x).2=true then[] else[x]):=by
 rw[List.take_add_one,ag];exact Xy f _ s x
end
def lN(slot query:Int)(q:List bc)(p:Int×Int):List bc×Bool:=
 match lh q p with
 | some x=>if uj slot query x=true then(q.filter (λy=>decide (y.pl≠p)),true) else(q,false)
 | none=>(q,false)
def Jh(q:List bc)(p:Int×Int):Prop:=∃x,x∈q/\x.pl=p/\(q.map bc.pl).Nodup
theorem NT(slot query:Int):∀(r a:List bc),((a++r).map bc.pl).Nodup->(∀x∈a,uj slot query x=false) ->
 Ba Jh (lN slot query) (a++r) (r.map bc.pl)/\kR (lN slot query) (a++r) (r.map bc.pl)=a++lj r slot query/\o6 (lN slot query) (a++r) (r.map bc.pl)=(lj r slot query).map bc.pl
 | [],a,_,_=>⟨trivial,by simp[kR,lj],rfl⟩
 | x::r,a,aN,aw=>by
  have ag:x∈a++x::r:=by simp
  have na:=Je aN ag
  have bX:Jh (a++x::r) x.pl:=⟨x,ag,rfl,aN⟩
  cases tW:uj slot query x with
  | true =>
   have bB:lN slot query (a++x::r) x.pl=((a++x::r).filter (λy=>decide (y.pl≠x.pl)),true):=by
    unfold lN;rw[na];simp only;rw[if_pos tW]
   have he:(a++x::r).filter (λy=>decide (y.pl≠x.pl))=a++r:=by
    rw[List.map_append,List.nodup_append] at aN
    rw[List.filter_append,List.filter_eq_self.2,Xx aN.2.1]
    intro y aD
    simp only[ne_eq,decide_eq_true_eq]
    exact λe=>aN.2.2 _ (List.mem_map.2 ⟨y,aD,rfl⟩) _ dg e
   rw[he] at bB
   have tn:((a++r).map bc.pl).Nodup:=aN.sublist (List.Sublist.map _ ((List.Sublist.refl a).append (List.sublist_cons_self x r)))
   obtain⟨h1,ah,aB⟩:=NT slot query r a tn aw
   refine⟨⟨bX,by rw[bB];exact h1⟩,?_,?_⟩
   . rw[List.map_cons]
     show kR (lN slot query) (lN slot query (a++x::r) x.pl).1 (r.map bc.pl)=_
     rw[bB,ah]
     unfold lj
     rw[List.filter_cons_of_neg (by simp[tW])]
   . rw[List.map_cons]
     show(if (lN slot query (a++x::r) x.pl).2=true then[] else[x.pl])++o6 (lN slot query) (lN slot query (a++x::r) x.pl).1 (r.map bc.pl)=_
     rw[bB,aB]
     unfold lj
     rw[List.filter_cons_of_neg (by simp[tW])];rfl
  | false =>
   have bB:lN slot query (a++x::r) x.pl=(a++x::r,false):=by
    unfold lN;rw[na];simp only;rw[tW];rfl
   have fS:a++x::r=(a++[x])++r:=by simp
   obtain⟨h1,ah,aB⟩:=NT slot query r (a++[x]) (by rw[<-fS];exact aN) (λy aD=>by
    rcases List.mem_append.1 aD with aD|aD
    . exact aw y aD
    . simp only[List.mem_singleton] at aD;subst aD;exact tW)
   rw[<-fS] at h1 ah aB
   refine⟨⟨bX,by rw[bB];exact h1⟩,?_,?_⟩
   . rw[List.map_cons]
     show kR (lN slot query) (lN slot query (a++x::r) x.pl).1 (r.map bc.pl)=_
     rw[bB,ah]
     unfold lj
     rw[List.filter_cons_of_pos (by simp[tW])];simp
   . rw[List.map_cons]
     show(if (lN slot query (a++x::r) x.pl).2=true then[] else[x.pl])++o6 (lN slot query) (lN slot query (a++x::r) x.pl).1 (r.map bc.pl)=_
     rw[bB,aB]
     unfold lj
     rw[List.filter_cons_of_pos (by simp[tW])];rfl
end Go.ak
namespace Go.aH
open Go Go.ak
def j2{R:Nat->Prop}(lE pj:TypeId)(dc:Nat)(q:List bc):dk R:=nK λx:Value×Nat×List ((Int×Int)×bc)=>pD (jm x.2.2 q) (bk [ax dc [x.1,.map (some x.2.1)] lE,lC k2 pj 2 x.1 (q.map bc.pl),jl lD lg x.2.1 x.2.2])
theorem au.uk{R bS:Nat->Prop}{w0 w:World}{L:List (dk R)}{lE pj:TypeId}{dc iS:Nat}{q:List bc}{m:List ((Int×Int)×bc)}{mM:Value}(h:au R bS w0 w L)(i:Nat)(ar:L[i]?=some (bk [ax dc [mM,.map (some iS)] lE,lC k2 pj 2 mM (q.map bc.pl),jl lD lg iS m]))(dH:jm m q):au R bS w0 w (L.set i (j2 lE pj dc q)):=h.imp ar λF x=>⟨(mM,iS,m),dH,x⟩
def Ji{R:Nat->Prop}(kZ ai0 lE:TypeId)(rh kF ot dc iS:Nat)(mM:Value)(slot query:Int)(q:List bc):dk R:=nK λm:List ((Int×Int)×bc)=>pD (jm m q) (bk [ax rh [.int .i64 slot] kZ,ax kF [ptr dc 0] ai0,ax ot [.int .i64 query] kZ,ax dc [mM,.map (some iS)] lE,jl lD lg iS m])
structure NU(P:Program){b3 α:Type}(kP:FuncId)(first cap:List Value)(val:α->Value)(A:b3->dk (λ_=>False))(ok:b3->α->Prop)(f:b3->α->b3×Bool):Prop where
 cl:b7 P kP=true
 call:∀s F w x,(A s).p F w->(∀b,F b->b<w.heap.size)->ok s x->Calls P kP (first++[val x]++cap).toArray w (al λaC an=>aC=.bool (f s x).2/\Mod F w an/\∃F',(A (f s x).1).p F' an/\∀b,F' b->b<an.heap.size/\(F b\/w.heap.size<=b))
theorem ai1{slot query:Int}{q:List bc}{p:Int×Int}{x:bc}(ag:x∈q)(hp:x.pl=p)(aN:(q.map bc.pl).Nodup):lN slot query q p=if uj slot query x=true then(q.filter (λy=>decide (y.pl≠p)),true) else(q,false):=by
 subst hp;unfold lN;rw[Je aN ag]
end Go.aH
namespace Go.ak
open Go.aH
structure vm{b3 α:Type}(f:b3->α->b3×Bool)(s:b3)(l:List α)(k:Nat):Prop where
 no:o6 f s (l.take k)=l.take k
theorem vm.start{b3 α:Type}(f:b3->α->b3×Bool)(s:b3)(l:List α):vm f s l 0:=⟨rfl⟩
theorem vm.next{b3 α:Type}{f:b3->α->b3×Bool}{s:b3}{l:List α}{k:Nat}{x:α}(h:vm f s l k)(ag:l[k]?=some x)(ab:(f (kR f s (l.take k)) x).2=false):vm f s l (k+1):=⟨by
 rw[Jg ag,ab,h.no,List.take_add_one,ag];rfl⟩
theorem vm.all{b3 α:Type}{f:b3->α->b3×Bool}{s:b3}{l:List α}{k:Nat}(h:vm f s l k)(hk:l.length<=k):o6 f s l=l:=by
 have:=h.no;rwa[List.take_of_length_le hk] at this
structure sA{b3 α:Type}(f:b3->α->b3×Bool)(s:b3)(l cur:List α)(i j:Nat):Prop where
 len:cur.length=l.length
 Fy:i<=j
 kept:cur.take i=o6 f s (l.take j)
 rest:cur.drop j=l.drop j
theorem sA.at{b3 α:Type}{f:b3->α->b3×Bool}{s:b3}{l cur:List α}{i j:Nat}(h:sA f s l cur i j){x:α}(ag:cur[j]?=some x):l[j]?=some x:=by
 have h1:=congrArg (λz:List α=>z[0]?) h.rest;simp only[List.getElem?_drop,Nat.add_zero] at h1;rw[<-h1];exact ag
theorem sA.start{b3 α:Type}{f:b3->α->b3×Bool}{s:b3}{l:List α}{k:Nat}{x:α}(h:vm f s l k)(ag:l[k]?=some x)(ab:(f (kR f s (l.take k)) x).2=true):sA f s l l k (k+1):=⟨rfl,Nat.le_succ _,by rw[Jg ag,ab,h.no];simp,rfl⟩
theorem sA.off{b3 α:Type}{f:b3->α->b3×Bool}{s:b3}{l cur:List α}{i j:Nat}(h:sA f s l cur i j){x:α}(ag:l[j]?=some x)(ab:(f (kR f s (l.take j)) x).2=true):sA f s l cur i (j+1):=
 ⟨h.len,Nat.le_succ_of_le h.Fy,by rw[Jg ag,ab,h.kept];simp,by rw[<-List.drop_drop,h.rest,List.drop_drop]⟩
theorem sA.on{b3 α:Type}{f:b3->α->b3×Bool}{s:b3}{l cur:List α}{i j:Nat}(h:sA f s l cur i j){x:α}(ag:l[j]?=some x)(ab:(f (kR f s (l.take j)) x).2=false):sA f s l (cur.set i x) (i+1) (j+1):=by
 have bo:=(List.getElem?_eq_some_iff.1 ag).1;have ar:i<cur.length:=(by have:=h.Fy;have:=h.len;omega);refine⟨by rw[List.length_set];exact h.len,Nat.succ_le_succ h.Fy,?_,?_⟩
 . rw[Jg ag,ab,<-h.kept,List.take_add_one,List.getElem?_set_self ar,List.take_set_of_le (Nat.le_refl _)];rfl
 . rw[List.drop_set_of_lt (by have:=h.Fy;omega),<-List.drop_drop,h.rest,List.drop_drop]
theorem sA.fin{b3 α:Type}{f:b3->α->b3×Bool}{s:b3}{l cur:List α}{i j:Nat}(h:sA f s l cur i j)(bo:l.length<=j):cur.take i=o6 f s l:=by rw[h.kept,List.take_of_length_le bo]
theorem ai2{x a:bc}:Fx x a=true↔x.query>a.query\/x.query=a.query/\x.seq>a.seq:=by unfold Fx;simp
theorem Fz{q:List bc}{a:bc}(h:¬ (0<=a.slot/\a.slot<4/\0<=a.shard/\a.shard<6)):nn q a=false/\gb q a=q:=by
 have:nn q a=false:=by unfold nn Jd;rw[decide_eq_false h];rfl
 exact⟨this,by unfold gb;rw[this];rfl⟩
theorem NV{q:List bc}{a x:bc}(ag:lh q a.pl=some x)(h:x.query>a.query\/x.query=a.query/\x.seq>a.seq):nn q a=false/\gb q a=q:=by
 have:nn q a=false:=by unfold nn;rw[ag];simp only[ai2.2 h];simp
 exact⟨this,by unfold gb;rw[this];rfl⟩
theorem Jj{q:List bc}{a x:bc}(a':0<=a.slot/\a.slot<4/\0<=a.shard/\a.shard<6)(ag:lh q a.pl=some x)(h:¬ (x.query>a.query\/x.query=a.query/\x.seq>a.seq)):nn q a=true/\gb q a=q.map λx=>if x.pl=a.pl then a else x:=by
 have aN:Fx x a=false:=(by unfold Fx;exact decide_eq_false h);have:nn q a=true:=by unfold nn Jd;rw[ag,decide_eq_true a'];simp[aN]
 exact⟨this,by unfold gb;rw[if_pos this,ag]⟩
theorem Xz{q:List bc}{a:bc}(a':0<=a.slot/\a.slot<4/\0<=a.shard/\a.shard<6)(ag:lh q a.pl=none):nn q a=true/\gb q a=q++[a]:=by
 have:nn q a=true:=by unfold nn Jd;rw[ag,decide_eq_true a'];rfl
 exact⟨this,by unfold gb;rw[if_pos this,ag]⟩
theorem ai3(q:List bc)(slot query:Int):(lj q slot query).length<=q.length:=List.length_filter_le _ _
theorem ai4{α:Type}{l o:List α}{i:Nat}{x:α}(h:o=l.take i)(ag:l[i]?=some x):o++[x]=l.take (i+1):=by
 rw[h,List.take_add_one,ag];rfl
end Go.ak
namespace Go.ak
open Go.aH
def XA(n:Int):Bool:=decide (0<=n/\n<=2147483647)
def vn(l:List Int):Bool:=l.all XA
def zh(x:b1):Bool:=decide (0<=x.ck/\x.ck<=4) && word x.word
def tp(slot shard:Int):Bool:=decide (0<=slot/\slot<4/\0<=shard/\shard<6)
def XB:b1:=⟨0,[]⟩
def wI(a:bc):Bool:=if a.first=true then decide (a.after=XB) else zh a.after
def nS(a:bc):Bool:=wI a && tp a.slot a.shard && vn [a.query,a.seq,a.fP] && asked a.text && decide (0<=a.k/\a.k<=4/\1<=a.batch/\a.batch<=5)
theorem XC{l:List Int}{i:Nat}{x:Int}(ag:l[i]?=some x)(h:¬ (0<=x/\x<=2147483647)):false=vn l:=by
 symm;unfold vn;rw[List.all_eq_false];exact⟨x,List.mem_of_getElem? ag,by unfold XA;simpa using h⟩
theorem XD{l:List Int}{i:Nat}(h:∀z∈l.take i,0<=z/\z<=2147483647)(ar:l.length<=i):true=vn l:=by
 symm;rw[List.take_of_length_le ar] at h;unfold vn;rw[List.all_eq_true];intro z cO;exact decide_eq_true (h z cO)
theorem XE{l:List Int}{i:Nat}{x:Int}(h:∀z∈l.take i,0<=z/\z<=2147483647)(ag:l[i]?=some x)(ah:0<=x/\x<=2147483647):∀z∈l.take (i+1),0<=z/\z<=2147483647:=by
 intro z cO;rw[List.take_add_one,ag] at cO;simp only[Option.toList_some,List.mem_append,List.mem_singleton] at cO;rcases cO with cO|rfl
 . exact h z cO
 . exact ah
theorem XF{x:b1}(h:¬ (0<=x.ck/\x.ck<=4)):false=zh x:=by unfold zh;rw[decide_eq_false h];rfl
theorem XG{x:b1}{b:Bool}(h:0<=x.ck/\x.ck<=4)(ab:b=word x.word):b=zh x:=by unfold zh;rw[decide_eq_true h,ab];rfl
theorem ai5{slot shard:Int}{b:Bool}{p:Prop}[Decidable p](ab:b=decide p)(h:p↔(0<=slot/\slot<4/\0<=shard/\shard<6)):b=tp slot shard:=by
 unfold tp;rw[ab];exact decide_eq_decide.2 h
theorem ai6{slot shard:Int}(h:¬ (0<=slot/\slot<4/\0<=shard/\shard<6)):false=tp slot shard:=(decide_eq_false h).symm
theorem NW{a:bc}{b:Bool}(h:a.first=true)(ab:b=decide (a.after=XB)):b=wI a:=by unfold wI;rw[if_pos h];exact ab
theorem NX{a:bc}{b:Bool}(h:a.first=false)(ab:b=zh a.after):b=wI a:=by unfold wI;rw[h];exact ab
theorem ai7{a:bc}(h:wI a=false):false=nS a:=by unfold nS;rw[h];rfl
theorem ai8{a:bc}(h:tp a.slot a.shard=false):false=nS a:=by unfold nS;rw[h];simp
theorem ai9{a:bc}(h:vn [a.query,a.seq,a.fP]=false):false=nS a:=by unfold nS;rw[h];simp
theorem ai_{a:bc}(h:asked a.text=false):false=nS a:=by unfold nS;rw[h];simp
theorem ai'{a:bc}(h:¬ (0<=a.k/\a.k<=4/\1<=a.batch/\a.batch<=5)):false=nS a:=by unfold nS;rw[decide_eq_false h];simp
theorem aja{a:bc}{b:Bool}(h1:wI a=true)(ah:tp a.slot a.shard=true)(aB:vn [a.query,a.seq,a.fP]=true)(bE:asked a.text=true)(c6:0<=a.k/\a.k<=4/\1<=a.batch)(ab:b=decide (a.batch<=5)):b=nS a:=by
 unfold nS;rw[h1,ah,aB,bE,ab];simp only[Bool.true_and];exact decide_eq_decide.2 aa
end Go.ak
namespace Go.aH
open Go
def FA:Nat->Env->Option Value
 | _,[]=>none
 | i,(j,v)::r=>match Nat.beq i j with
  | true=>some v
  | false=>FA i r
theorem NY:∀(i:Nat) (E:Env),FA i E=mE i E
 | _,[]=>rfl
 | i,(j,v)::r=>by
  unfold FA mE
  simp only
  cases Nat.beq i j with
  | true=>rfl
  | false=>exact NY i r
def xV(E:Env):Operand->Option Value
 | .tmp t=>FA t E
 | .const v=>some v
 | .global g=>some (.pointer (some ⟨g,0,none⟩))
 | .func f=>some (.func (.func f) #[] #[])
theorem Bb(E:Env)(x:Operand):xV E x=aO E x:=by
 cases x with
 | tmp t=>exact NY t E
 | _=>rfl
def Jk(n:Nat)(ops:Array Oper)(E:Env):Option (Nat×Bool)->Option Bool
 | none=>some true
 | some (j,b)=>match (ops[j]?).bind (·.dst) with
  | some d=>match FA d E with
   | some (.bool c)=>match Nat.blt d n with
    | true=>some (c==b)
    | false=>none
   | some (.tuple _)=>some false
   | _=>none
  | none=>none
theorem Df(n:Nat)(ops:Array Oper)(E:Env)(g:Option (Nat×Bool)):Jk n ops E g=want n ops E g:=by
 unfold Jk want;simp only[NY];rfl
def xW(E:Env):Op->Option Value
 | .move x=>xV E x
 | .assign x=>xV E x
 | .pick c x y=>match xV E c with
  | some (.bool true)=>xV E x
  | some (.bool false)=>xV E y
  | _=>none
 | .extract x i=>match xV E x with
  | some (.tuple vs)=>vs[i]?
  | _=>none
 | .nilCheck x=>match xV E x with
  | some (.pointer (some ⟨b,o,none⟩))=>some (.pointer (some ⟨b,o,none⟩))
  | _=>none
 | _=>none
inductive zi where
 | it (k:List Item)
 | op (ops:Array Oper) (l:List Oper) (k:List Item)
def go(n:Nat):Nat->zi->Env->Option (zi×Env)
 | 0,p,E=>some (p,E)
 | m+1,.it (.code (.seq x y)::k),E=>go n m (.it (.code x::.code y::k)) E
 | m+1,.it (.code .skip::k),E=>go n m (.it k) E
 | m+1,.it (.code (.block id c)::k),E=>go n m (.it (.code c::.inBlock id::k)) E
 | m+1,.it (.inBlock _::k),E=>go n m (.it k) E
 | m+1,.it (.code (.exit id)::k),E=>match exitTo id k with
  | some ju=>go n m (.it ju) E
  | none=>none
 | m+1,.it (.code (.cond c x y)::k),E=>match xV E c with
  | some (.bool true)=>go n m (.it (.code x::k)) E
  | some (.bool false)=>go n m (.it (.code y::k)) E
  | _=>none
 | m+1,.it (.code (.region _ ops false)::k),E=>go n m (.op ops ops.toList k) E
 | m+1,.op _ [] k,E=>go n m (.it k) E
 | m+1,.op ops (o::l) k,E=>match kh n o.dst with
  | true=>match Jk n ops E o.guard with
   | some true=>match xW E o.op with
    | some v=>match o.dst with
     | some d=>go n m (.op ops l k) ((d,v)::E)
     | none=>go n m (.op ops l k) E
    | none=>none
   | some false=>match o.dst with
    | some d=>go n m (.op ops l k) ((d,undef)::E)
    | none=>go n m (.op ops l k) E
   | none=>none
  | false=>none
 | _+1,_,_=>none
section
variable {P:Program} {f:FuncId} {R:Ending->World->Prop} {n:Nat} {w:World}
def zi.h(P:Program)(f:FuncId)(R:Ending->World->Prop)(n:Nat)(w:World):zi->Env->Prop
 | .it k,E=>hs P f R n E k w
 | .op ops l k,E=>fJ P f R n ops l E k w
theorem Jl{E:Env}{C:World->Prop}{o:Oper}{v:Value}(h:xW E o.op=some v):bx P o E C v:=by
 obtain⟨d,op,ty,pos,af,gd⟩:=o
 cases op with
 | move x=>simp only[xW,Bb] at h;exact bx.move h
 | assign x=>simp only[xW,Bb] at h;exact bx.assign h
 | pick c x y =>
  simp only[xW,Bb] at h;split at h
  . rename_i ao;exact bx.acu ao h
  . rename_i ao;exact bx.acv ao h
  . cases h
 | extract x i =>
  simp only[xW,Bb] at h;split at h
  . rename_i ag;exact bx.extract ag h
  . cases h
 | nilCheck x =>
  simp only[xW,Bb] at h;split at h
  . rename_i ag;cases h;exact bx.adL ag
  . cases h
 | _=>simp[xW] at h
theorem Jm:∀(m:Nat) (p:zi) (E:Env) {Jn:zi} {jc:Env},go n m p E=some (Jn,jc)->zi.h P f R n w Jn jc->zi.h P f R n w p E:=by
 intro m
 induction m with
 | zero =>
  intro p E Jn jc h ah;simp only[go,Option.some.injEq,Prod.mk.injEq] at h;obtain⟨rfl,rfl⟩:=h;exact ah
 | succ m b' =>
  intro p E Jn jc h ah
  cases p with
  | it k =>
   cases k with
   | nil=>simp[go] at h
   | cons x k =>
    cases x with
    | code c =>
     cases c with
     | seq x y=>exact abY (b' _ _ h ah)
     | skip=>exact abZ (b' _ _ h ah)
     | block id c=>exact ab0 (b' _ _ h ah)
     | exit id =>
      unfold go at h;split at h
      . rename_i hk;exact ab2 hk (b' _ _ h ah)
      . cases h
     | cond c x y =>
      unfold go at h;split at h
      . rename_i ao;rw[Bb] at ao;exact ab3 ao (b' _ _ h ah)
      . rename_i ao;rw[Bb] at ao;exact ab4 ao (b' _ _ h ah)
      . cases h
     | region id ops ajb =>
      cases ajb with
      | true=>simp[go] at h
      | false =>
       have aB:fJ P f R n ops ops.toList E k w:=b' _ _ h ah;have bE:=ab9 (id:=id) (l:=ops.toList) aB;rwa[Array.toArray_toList] at bE
     | _=>simp[go] at h
    | inBlock id=>exact ab1 (b' _ _ h ah)
    | _=>simp[go] at h
  | op ops l k =>
   cases l with
   | nil=>exact fJ.nil (b' _ _ h ah)
   | cons o l =>
    unfold go at h;split at h
    . rename_i hd;split at h
      . rename_i hw;rw[Df] at hw;split at h
        . rename_i v cI;split at h
          . rename_i d nT;refine fJ.q (Jl cI) hw hd ?_;rw[nT];exact b' _ _ h ah
          . rename_i nT;refine fJ.q (Jl cI) hw hd ?_;rw[nT];exact b' _ _ h ah
        . cases h
      . rename_i hw;rw[Df] at hw;split at h
        . rename_i d nT;refine fJ.ew hw hd ?_;rw[nT];exact b' _ _ h ah
        . rename_i nT;refine fJ.ew hw hd ?_;rw[nT];exact b' _ _ h ah
      . cases h
    . cases h
theorem hs.ae{E jc:Env}{k ju:List Item}(m:Nat)(h:aH.go n m (.it k) E=some (.it ju,jc))(ah:hs P f R n jc ju w):hs P f R n E k w:=Jm m (.it k) E h ah
theorem hs.go{E jc:Env}{k ju:List Item}{ops:Array Oper}{l:List Oper}(m:Nat)(h:aH.go n m (.it k) E=some (.op ops l ju,jc))(ah:fJ P f R n ops l jc ju w):hs P f R n E k w:=Jm m (.it k) E h ah
theorem fJ.ae{E jc:Env}{k ju:List Item}{ops:Array Oper}{l:List Oper}(m:Nat)(h:aH.go n m (.op ops l k) E=some (.it ju,jc))(ah:hs P f R n jc ju w):fJ P f R n ops l E k w:=Jm m (.op ops l k) E h ah
theorem fJ.go{E jc:Env}{k ju:List Item}{ops XH:Array Oper}{l jV:List Oper}(m:Nat)(h:aH.go n m (.op ops l k) E=some (.op XH jV ju,jc))(ah:fJ P f R n XH jV jc ju w):fJ P f R n ops l E k w:=Jm m (.op ops l k) E h ah
end
end Go.aH
set_option linter.unusedSectionVars false
namespace Go.aH
open Go
section
variable {P:Program} {f:FuncId} {R:Ending->World->Prop} {n:Nat}
theorem fJ.z{ops:Array Oper}{o:Oper}{l:List Oper}{E:Env}{k:List Item}{w:World}{v:Value}(dH:bx P o E (λan=>an=w) v)(h:fJ P f R n ops l (pu o.dst v E) k w)
 (hw:want n ops E o.guard=some true:=by exact rfl) (hd:kh n o.dst=true:=by exact rfl):fJ P f R n ops (o::l) E k w:=fJ.q dH hw hd h
theorem fJ.ee{ops:Array Oper}{o:Oper}{l:List Oper}{E:Env}{k:List Item}{w:World}{c:Bool}(dH:bx P o E (λan=>an=w) (.bool c))(h:∀b,b=c->fJ P f R n ops l (pu o.dst (.bool b) E) k w)
 (hw:want n ops E o.guard=some true:=by exact rfl) (hd:kh n o.dst=true:=by exact rfl):fJ P f R n ops (o::l) E k w:=fJ.dc dH hw hd h
theorem fJ.ac{ops:Array Oper}{o:Oper}{l:List Oper}{E:Env}{k:List Item}{w:World}(aw:gB P o E w (λv an=>fJ P f R n ops l (pu o.dst v E) k an))
 (hw:want n ops E o.guard=some true:=by exact rfl) (hd:kh n o.dst=true:=by exact rfl):fJ P f R n ops (o::l) E k w:=fJ.act hw hd aw
theorem fJ.bg{ops:Array Oper}{o:Oper}{l:List Oper}{E:Env}{k:List Item}{w:World}{p:Prop}{i:Decidable p}(dH:bx P o E (λan=>an=w) (.bool (@decide p i)))(a8:p->fJ P f R n ops l (pu o.dst (.bool true) E) k w)(bB:¬ p->fJ P f R n ops l (pu o.dst (.bool false) E) k w)
 (hw:want n ops E o.guard=some true:=by exact rfl) (hd:kh n o.dst=true:=by exact rfl):fJ P f R n ops (o::l) E k w:=fJ.dc dH hw hd λb ab=>by
 cases b
 . exact bB (of_decide_eq_false ab.symm)
 . exact a8 (of_decide_eq_true ab.symm)
theorem fJ.gl{ops:Array Oper}{o:Oper}{l:List Oper}{E:Env}{k:List Item}{w:World}{α:Type}[BEq α][LawfulBEq α]{a c:α}(dH:bx P o E (λan=>an=w) (.bool (a==c)))(a8:a=c->fJ P f R n ops l (pu o.dst (.bool true) E) k w)(bB:a≠c->fJ P f R n ops l (pu o.dst (.bool false) E) k w)
 (hw:want n ops E o.guard=some true:=by exact rfl) (hd:kh n o.dst=true:=by exact rfl):fJ P f R n ops (o::l) E k w:=fJ.dc dH hw hd λb ab=>by
 cases b
 . exact bB (ne_of_beq_false ab.symm)
 . exact a8 (eq_of_beq ab.symm)
theorem fJ.lO{ops:Array Oper}{o:Oper}{l:List Oper}{E:Env}{k:List Item}{w:World}{α:Type}[BEq α][LawfulBEq α]{a c:α}(dH:bx P o E (λan=>an=w) (.bool (!(a==c))))(a8:a≠c->fJ P f R n ops l (pu o.dst (.bool true) E) k w)(bB:a=c->fJ P f R n ops l (pu o.dst (.bool false) E) k w)
 (hw:want n ops E o.guard=some true:=by exact rfl) (hd:kh n o.dst=true:=by exact rfl):fJ P f R n ops (o::l) E k w:=fJ.dc dH hw hd λb ab=>by
 cases b
 . exact bB (LP ab)
 . exact a8 (LO ab)
theorem fJ.pk{ops:Array Oper}{o:Oper}{l:List Oper}{E:Env}{k:List Item}{w:World}{c:Bool}(dH:bx P o E (λan=>an=w) (.bool c))(ao:c=true)(h:fJ P f R n ops l (pu o.dst (.bool true) E) k w)
 (hw:want n ops E o.guard=some true:=by exact rfl) (hd:kh n o.dst=true:=by exact rfl):fJ P f R n ops (o::l) E k w:=fJ.q (ao▸dH) hw hd h
theorem fJ.lP{ops:Array Oper}{o:Oper}{l:List Oper}{E:Env}{k:List Item}{w:World}{c:Bool}(dH:bx P o E (λan=>an=w) (.bool c))(ao:c=false)(h:fJ P f R n ops l (pu o.dst (.bool false) E) k w)
 (hw:want n ops E o.guard=some true:=by exact rfl) (hd:kh n o.dst=true:=by exact rfl):fJ P f R n ops (o::l) E k w:=fJ.q (ao▸dH) hw hd h
theorem bx.fU{E:Env}{d:Option Tmp}{ty:TypeId}{pos:String}{af:Array Edge}{gd:Option (Nat×Bool)}{w:World}{t:TypeId}{x:Operand}{b off m by_:Nat}{z cs:List Value}{v:Value}{e:TypeId}(a8:ey P t=some (false,m,by_,z))(ab:dv w b cs e)
 (ag:aO E x=some (ptr b off):=by exact rfl) (ao:cs[off]?=some v:=by exact rfl):bx P ⟨d,.load t x,ty,pos,af,gd⟩ E (λan=>an=w) v:=bx.cg a8 ag λ_ e=>e▸ab.cell off _ ao
theorem bx.dN{E:Env}{d:Option Tmp}{ty:TypeId}{pos:String}{af:Array Edge}{gd:Option (Nat×Bool)}{w:World}{t:TypeId}{x:Operand}{b off m by_:Nat}{z:List Value}{v:Value}(a8:ey P t=some (false,m,by_,z))(a':Row w b off [v])
 (ag:aO E x=some (ptr b off):=by exact rfl):bx P ⟨d,.load t x,ty,pos,af,gd⟩ E (λan=>an=w) v:=bx.cg a8 ag λ_ e=>e▸a'
theorem fJ.a6{ops:Array Oper}{l:List Oper}{E:Env}{k:List Item}{w:World}{d d2:Option Tmp}{ty ajc:TypeId}{pos ajd:String}{af aje:Array Edge}{gd XI:Option (Nat×Bool)}{t t2:TypeId}{x x2:Operand}{i b Jo off o m by_:Nat}{z cs:List Value}{v:Value}{e:TypeId}
 (bB:dF P t i=some o) (a8:ey P t2=some (false,m,by_,z)) (ab:dv w b cs e) (h:fJ P f R n ops l (pu d2 v (pu d (ptr b (Jo+o)) E)) k w)
 (ag:aO E x=some (ptr b Jo):=by exact rfl) (c4:aO (pu d (ptr b (Jo+o)) E) x2=some (ptr b off):=by exact rfl) (ao:cs[off]?=some v:=by exact rfl)
 (hw:want n ops E gd=some true:=by exact rfl) (hd:kh n d=true:=by exact rfl) (eG:want n ops (pu d (ptr b (Jo+o)) E) XI=some true:=by exact rfl) (NZ:kh n d2=true:=by exact rfl) :
 fJ P f R n ops (⟨d,.fieldAddr t x i,ty,pos,af,gd⟩::⟨d2,.load t2 x2,ajc,ajd,aje,XI⟩::l) E k w:=
 fJ.q (bx.fieldAddr bB ag) hw hd (fJ.q (bx.fU a8 ab c4 ao) eG NZ h)
theorem gB.st{E:Env}{K:Value->World->Prop}{d:Option Tmp}{ty:TypeId}{pos:String}{af:Array Edge}{gd:Option (Nat×Bool)}{w:World}{t e:TypeId}{x y:Operand}{v:Value}{b off n by_:Nat}{g:Bool}{z cs vs:List Value}(a8:ey P t=some (g,n,by_,z))(ab:dv w b cs e)
 (eR:∀an,Mod (λi=>i+1=b+1) w an->dv an b (cs.take off++vs++cs.drop (off+n)) e->K undef an)
 (ag:aO E x=some (ptr b off):=by exact rfl) (aD:aO E y=some v:=by exact rfl) (cI:v.cells.toList=vs:=by exact rfl) (aN:vs.length=n:=by exact rfl) (h1:vs.all (·.oneCell')=true:=by exact rfl) (bj:(off+n).ble cs.length=true:=by exact rfl) :
 gB P ⟨d,.store t x y,ty,pos,af,gd⟩ E w K:=gB.store a8 ag aD cI aN h1 ab (Nat.le_of_ble_eq_true bj) λan hm _ hk=>eR an hm hk
theorem dn{a b:Nat}(h:a.ble b=true:=by exact rfl):a<=b:=Nat.le_of_ble_eq_true h
theorem zj{p:Prop}[Decidable p](h:true=decide p):p:=of_decide_eq_true h.symm
theorem zk{p:Prop}[Decidable p](h:false=decide p):¬ p:=of_decide_eq_false h.symm
end
section
variable {R bS:Nat->Prop} {w0 w an:World} {L:List (dk R)} {i:Nat} {A:dk R}
theorem au.k{b:Nat}{cs:List Value}{e:TypeId}(h:au R bS w0 w L)(i:Nat)(ar:L[i]?=some (ax b cs e):=by exact rfl):dv w b cs e:=h.ad0 ar
theorem au.Dg(is Jp:List Nat)(h:au R bS w0 w L)(bj:((is++Jp).all λi=>decide (i<L.length))=true)(aN:(is++Jp).Nodup):au R bS w0 w ((is.filterMap λi=>L[i]?)++[bk (Jp.filterMap λi=>L[i]?)]):=by
 have h1:=h.yY (is++Jp) bj aN;rw[List.filterMap_append] at h1;exact h1.close
theorem au.un(i:Nat)(h:au R bS w0 w L){L2:List (dk R)}(ar:L[i]?=some (bk L2))(is:List Nat)(bj:((is++[i]).all λi=>decide (i<L.length))=true)(aN:(is++[i]).Nodup):au R bS w0 w ((is.filterMap λi=>L[i]?)++L2):=by
 have h1:=h.yY (is++[i]) bj aN;rw[List.filterMap_append,List.filterMap_cons,ar] at h1;exact h1.open
theorem au.tq(h:au R bS w0 w L)(i:Nat)(ar:L[i]?=some A):Mod bS w0 w/\∃F',A.p F' w/\∀b,F' b->b<w.heap.size/\(bS b\/w0.heap.size<=b):=by
 obtain⟨F,h1,ah,_⟩:=h.act ar;exact⟨h.mod,F,h1,λb ab=>⟨(ah b ab).2,(ah b ab).1.1⟩⟩
theorem au.rt{v gQ:Value}(h:au R bS w0 w L)(i:Nat)(ar:L[i]?=some A)(cI:v=gQ):al (λaC ai=>aC=gQ/\Mod bS w0 ai/\∃bu,A.p bu ai/\∀b,bu b->b<ai.heap.size/\(bS b\/w0.heap.size<=b)) (.returned v) w:=by
 obtain⟨h1,F,ah,aB⟩:=h.tq i ar;exact⟨v,rfl,cI,h1,F,ah,aB⟩
theorem au.ty(A':dk R)(i:Nat)(h:au R bS w0 w L)(ar:L[i]?=some A)(bf:∀F,A.p F w->A'.p F w):au R bS w0 w (L.set i A'):=h.imp ar bf
end
section
variable {R bS:Nat->Prop} {w0 w:World} {L:List (dk R)}
theorem au.XJ(h:au R bS w0 w L)(k1:L=[]:=by exact rfl):au R bS w0 w []:=k1▸h
theorem au.cf{fg:dk R}(h:au R bS w0 w L)(k1:L=[fg]:=by exact rfl):au R bS w0 w [fg]:=k1▸h
theorem au.bO{fg fQ:dk R}(h:au R bS w0 w L)(k1:L=[fg,fQ]:=by exact rfl):au R bS w0 w [fg,fQ]:=k1▸h
theorem au.cx{fg fQ gD:dk R}(h:au R bS w0 w L)(k1:L=[fg,fQ,gD]:=by exact rfl):au R bS w0 w [fg,fQ,gD]:=k1▸h
theorem au.bU{fg fQ gD hI:dk R}(h:au R bS w0 w L)(k1:L=[fg,fQ,gD,hI]:=by exact rfl):au R bS w0 w [fg,fQ,gD,hI]:=k1▸h
theorem au.cQ{fg fQ gD hI iG:dk R}(h:au R bS w0 w L)(k1:L=[fg,fQ,gD,hI,iG]:=by exact rfl):au R bS w0 w [fg,fQ,gD,hI,iG]:=k1▸h
theorem au.n6{fg fQ gD hI iG jK:dk R}(h:au R bS w0 w L)(k1:L=[fg,fQ,gD,hI,iG,jK]:=by exact rfl):au R bS w0 w [fg,fQ,gD,hI,iG,jK]:=k1▸h
theorem au.n7{fg fQ gD hI iG jK kS:dk R}(h:au R bS w0 w L)(k1:L=[fg,fQ,gD,hI,iG,jK,kS]:=by exact rfl):au R bS w0 w [fg,fQ,gD,hI,iG,jK,kS]:=k1▸h
theorem au.n8{fg fQ gD hI iG jK kS mw:dk R}(h:au R bS w0 w L)(k1:L=[fg,fQ,gD,hI,iG,jK,kS,mw]:=by exact rfl):au R bS w0 w [fg,fQ,gD,hI,iG,jK,kS,mw]:=k1▸h
theorem au.h3{fg fQ gD hI iG jK kS mw pn:dk R}(h:au R bS w0 w L)(k1:L=[fg,fQ,gD,hI,iG,jK,kS,mw,pn]:=by exact rfl):au R bS w0 w [fg,fQ,gD,hI,iG,jK,kS,mw,pn]:=k1▸h
theorem au.n10{fg fQ gD hI iG jK kS mw pn qF:dk R}(h:au R bS w0 w L)(k1:L=[fg,fQ,gD,hI,iG,jK,kS,mw,pn,qF]:=by exact rfl):au R bS w0 w [fg,fQ,gD,hI,iG,jK,kS,mw,pn,qF]:=k1▸h
theorem au.n11{fg fQ gD hI iG jK kS mw pn qF sB:dk R}(h:au R bS w0 w L)(k1:L=[fg,fQ,gD,hI,iG,jK,kS,mw,pn,qF,sB]:=by exact rfl):au R bS w0 w [fg,fQ,gD,hI,iG,jK,kS,mw,pn,qF,sB]:=k1▸h
theorem au.n12{fg fQ gD hI iG jK kS mw pn qF sB zl:dk R}(h:au R bS w0 w L)(k1:L=[fg,fQ,gD,hI,iG,jK,kS,mw,pn,qF,sB,zl]:=by exact rfl):au R bS w0 w [fg,fQ,gD,hI,iG,jK,kS,mw,pn,qF,sB,zl]:=k1▸h
end
section
variable {R bS:Nat->Prop} {w0 w:World} {L:List (dk R)}
theorem au.aK{fg:dk R}(h:au R bS w0 w L)(is:List Nat)(lF:Nat)(bj:((is++[lF]).all λi=>decide (i<L.length))=true:=by exact rfl)(aN:(is++[lF]).Nodup:=by decide)(bK:L[lF]?=some fg:=by exact rfl):au R bS w0 w ((is.filterMap λi=>L[i]?)++[bk [fg]]):=by
 have ag:=h.Dg is [lF] bj aN;simp only[List.filterMap_cons,List.filterMap_nil,bK] at ag;exact ag
theorem au.aR{fg fQ:dk R}(h:au R bS w0 w L)(is:List Nat)(lF np:Nat)(bj:((is++[lF,np]).all λi=>decide (i<L.length))=true:=by exact rfl)(aN:(is++[lF,np]).Nodup:=by decide)(bK:L[lF]?=some fg:=by exact rfl)(h1:L[np]?=some fQ:=by exact rfl):au R bS w0 w ((is.filterMap λi=>L[i]?)++[bk [fg,fQ]]):=by
 have ag:=h.Dg is [lF,np] bj aN;simp only[List.filterMap_cons,List.filterMap_nil,bK,h1] at ag;exact ag
theorem au.bz{fg fQ gD:dk R}(h:au R bS w0 w L)(is:List Nat)(lF np pN:Nat)(bj:((is++[lF,np,pN]).all λi=>decide (i<L.length))=true:=by exact rfl)(aN:(is++[lF,np,pN]).Nodup:=by decide)(bK:L[lF]?=some fg:=by exact rfl)(h1:L[np]?=some fQ:=by exact rfl)(ah:L[pN]?=some gD:=by exact rfl):au R bS w0 w ((is.filterMap λi=>L[i]?)++[bk [fg,fQ,gD]]):=by
 have ag:=h.Dg is [lF,np,pN] bj aN;simp only[List.filterMap_cons,List.filterMap_nil,bK,h1,ah] at ag;exact ag
theorem au.bL{fg fQ gD hI:dk R}(h:au R bS w0 w L)(is:List Nat)(lF np pN sC:Nat)(bj:((is++[lF,np,pN,sC]).all λi=>decide (i<L.length))=true:=by exact rfl)(aN:(is++[lF,np,pN,sC]).Nodup:=by decide)(bK:L[lF]?=some fg:=by exact rfl)(h1:L[np]?=some fQ:=by exact rfl)(ah:L[pN]?=some gD:=by exact rfl)(aB:L[sC]?=some hI:=by exact rfl):au R bS w0 w ((is.filterMap λi=>L[i]?)++[bk [fg,fQ,gD,hI]]):=by
 have ag:=h.Dg is [lF,np,pN,sC] bj aN;simp only[List.filterMap_cons,List.filterMap_nil,bK,h1,ah,aB] at ag;exact ag
theorem au.cE{fg fQ gD hI iG:dk R}(h:au R bS w0 w L)(is:List Nat)(lF np pN sC xX:Nat)(bj:((is++[lF,np,pN,sC,xX]).all λi=>decide (i<L.length))=true:=by exact rfl)(aN:(is++[lF,np,pN,sC,xX]).Nodup:=by decide)(bK:L[lF]?=some fg:=by exact rfl)(h1:L[np]?=some fQ:=by exact rfl)(ah:L[pN]?=some gD:=by exact rfl)(aB:L[sC]?=some hI:=by exact rfl)(bE:L[xX]?=some iG:=by exact rfl):au R bS w0 w ((is.filterMap λi=>L[i]?)++[bk [fg,fQ,gD,hI,iG]]):=by
 have ag:=h.Dg is [lF,np,pN,sC,xX] bj aN;simp only[List.filterMap_cons,List.filterMap_nil,bK,h1,ah,aB,bE] at ag;exact ag
theorem au.de{fg fQ gD hI iG jK:dk R}(h:au R bS w0 w L)(is:List Nat)(lF np pN sC xX Jq:Nat)(bj:((is++[lF,np,pN,sC,xX,Jq]).all λi=>decide (i<L.length))=true:=by exact rfl)(aN:(is++[lF,np,pN,sC,xX,Jq]).Nodup:=by decide)(bK:L[lF]?=some fg:=by exact rfl)(h1:L[np]?=some fQ:=by exact rfl)(ah:L[pN]?=some gD:=by exact rfl)(aB:L[sC]?=some hI:=by exact rfl)(bE:L[xX]?=some iG:=by exact rfl)(c6:L[Jq]?=some jK:=by exact rfl):au R bS w0 w ((is.filterMap λi=>L[i]?)++[bk [fg,fQ,gD,hI,iG,jK]]):=by
 have ag:=h.Dg is [lF,np,pN,sC,xX,Jq] bj aN;simp only[List.filterMap_cons,List.filterMap_nil,bK,h1,ah,aB,bE,c6] at ag;exact ag
end
end Go.aH
namespace Go.aH
open Go
def gd(n:Nat)(A:Nat->Bool)(ops:Array Oper):Nat->List Nat->Env->Option (List Nat×Env)
 | 0,l,E=>some (l,E)
 | m+1,i::l,E=>match ops[i]? with
  | some o=>match kh n o.dst with
   | true=>match Jk n ops E o.guard with
    | some true=>match A i with
     | false=>match xW E o.op with
      | some v=>match o.dst with
       | some d=>gd n A ops m l ((d,v)::E)
       | none=>gd n A ops m l E
      | none=>none
     | true=>none
    | some false=>match o.dst with
     | some d=>gd n A ops m l ((d,undef)::E)
     | none=>gd n A ops m l E
    | none=>none
   | false=>none
  | none=>none
 | _+1,[],_=>none
section
variable {P:Program} {f:FuncId} {R:Ending->World->Prop} {n:Nat} {C:World->Prop} {A:Nat->Bool} {Z:Nat} {w:World}
theorem hN.gd {ops:Array Oper} {k:List Item} (m:Nat) {l jV:List Nat} {E jc:Env} (h:aH.gd n A ops m l E=some (jV,jc)) (ah:hN P f R n C A Z ops jV jc k w):hN P f R n C A Z ops l E k w:=by
 induction m generalizing l E with
 | zero =>
  simp only [aH.gd,Option.some.injEq,Prod.mk.injEq] at h;obtain ⟨rfl,rfl⟩:=h;exact ah
 | succ m b' =>
  cases l with
  | nil=>simp [aH.gd] at h
  | cons i l =>
   unfold aH.gd at h;split at h
   · rename_i o eh;split at h
     · rename_i hd;split at h
       · rename_i hw;rw [Df] at hw;split at h
         · rename_i bf;split at h
           · rename_i v cI;refine hN.q eh bf (Jl cI) hw hd ?_;split at h
             · rename_i d nT; rw [nT]; exact b' h
             · rename_i nT; rw [nT]; exact b' h
           · cases h
         · cases h
       · rename_i hw;rw [Df] at hw;refine hN.ew eh hw hd ?_;split at h
         · rename_i d nT; rw [nT]; exact b' h
         · rename_i nT; rw [nT]; exact b' h
       · cases h
     · cases h
   · cases h
theorem hN.z{ops:Array Oper}{o:Oper}{i:Nat}{l:List Nat}{E:Env}{k:List Item}{v:Value}(eh:ops[i]?=some o)(dH:bx P o E C v)(h:hN P f R n C A Z ops l (pu o.dst v E) k w)
 (bf:A i=false:=by exact rfl) (hw:want n ops E o.guard=some true:=by exact rfl) (hd:kh n o.dst=true:=by exact rfl):hN P f R n C A Z ops (i::l) E k w:=hN.q eh bf dH hw hd h
theorem hN.ee{ops:Array Oper}{o:Oper}{i:Nat}{l:List Nat}{E:Env}{k:List Item}{c:Bool}(eh:ops[i]?=some o)(dH:bx P o E C (.bool c))(h:∀b,b=c->hN P f R n C A Z ops l (pu o.dst (.bool b) E) k w)
 (bf:A i=false:=by exact rfl) (hw:want n ops E o.guard=some true:=by exact rfl) (hd:kh n o.dst=true:=by exact rfl):hN P f R n C A Z ops (i::l) E k w:=hN.dc eh bf dH hw hd h
theorem hN.bg{ops:Array Oper}{o:Oper}{i:Nat}{l:List Nat}{E:Env}{k:List Item}{p:Prop}{j:Decidable p}(eh:ops[i]?=some o)(dH:bx P o E C (.bool (@decide p j)))(a8:p->hN P f R n C A Z ops l (pu o.dst (.bool true) E) k w)(bB:¬ p->hN P f R n C A Z ops l (pu o.dst (.bool false) E) k w)
 (bf:A i=false:=by exact rfl) (hw:want n ops E o.guard=some true:=by exact rfl) (hd:kh n o.dst=true:=by exact rfl):hN P f R n C A Z ops (i::l) E k w:=hN.dc eh bf dH hw hd λb ab=>by
 cases b
 . exact bB (of_decide_eq_false ab.symm)
 . exact a8 (of_decide_eq_true ab.symm)
theorem hN.gl{ops:Array Oper}{o:Oper}{i:Nat}{l:List Nat}{E:Env}{k:List Item}{α:Type}[BEq α][LawfulBEq α]{a c:α}(eh:ops[i]?=some o)(dH:bx P o E C (.bool (a==c)))(a8:a=c->hN P f R n C A Z ops l (pu o.dst (.bool true) E) k w)(bB:a≠c->hN P f R n C A Z ops l (pu o.dst (.bool false) E) k w)
 (bf:A i=false:=by exact rfl) (hw:want n ops E o.guard=some true:=by exact rfl) (hd:kh n o.dst=true:=by exact rfl):hN P f R n C A Z ops (i::l) E k w:=hN.dc eh bf dH hw hd λb ab=>by
 cases b
 . exact bB (ne_of_beq_false ab.symm)
 . exact a8 (eq_of_beq ab.symm)
theorem hN.lO{ops:Array Oper}{o:Oper}{i:Nat}{l:List Nat}{E:Env}{k:List Item}{α:Type}[BEq α][LawfulBEq α]{a c:α}(eh:ops[i]?=some o)(dH:bx P o E C (.bool (!(a==c))))(a8:a≠c->hN P f R n C A Z ops l (pu o.dst (.bool true) E) k w)(bB:a=c->hN P f R n C A Z ops l (pu o.dst (.bool false) E) k w)
 (bf:A i=false:=by exact rfl) (hw:want n ops E o.guard=some true:=by exact rfl) (hd:kh n o.dst=true:=by exact rfl):hN P f R n C A Z ops (i::l) E k w:=hN.dc eh bf dH hw hd λb ab=>by
 cases b
 . exact bB (LP ab)
 . exact a8 (LO ab)
theorem hN.ac{ops:Array Oper}{o:Oper}{i:Nat}{l:List Nat}{E:Env}{k:List Item}(eh:ops[i]?=some o)(aw:gB P o E w (λv an=>(i=Z\/C an)/\hN P f R n C A Z ops l (pu o.dst v E) k an))
 (bf:A i=true:=by exact rfl) (hw:want n ops E o.guard=some true:=by exact rfl) (hd:kh n o.dst=true:=by exact rfl):hN P f R n C A Z ops (i::l) E k w:=hN.act eh bf hw hd aw
end
end Go.aH
namespace Go.py
open Go Go.aH
section
variable {P:Program} {f:FuncId} {R:Ending->World->Prop} {n:Nat} {C:World->Prop} {A N:Nat->Bool} {Z:Nat} {w eF:World}
theorem iN.gd {ops:Array Oper} {k:List Item} (m:Nat) {l jV:List Nat} {E jc:Env} (h:aH.gd n A ops m l E=some (jV,jc)) (ah:iN P f R n C A N eF Z ops jV jc k w):iN P f R n C A N eF Z ops l E k w:=by
 induction m generalizing l E with
 | zero =>
  simp only [aH.gd,Option.some.injEq,Prod.mk.injEq] at h;obtain ⟨rfl,rfl⟩:=h;exact ah
 | succ m b' =>
  cases l with
  | nil=>simp [aH.gd] at h
  | cons i l =>
   unfold aH.gd at h;split at h
   · rename_i o eh;split at h
     · rename_i hd;split at h
       · rename_i hw;rw [Df] at hw;split at h
         · rename_i bf;split at h
           · rename_i v cI;refine iN.q eh bf (Jl cI) hw hd ?_;split at h
             · rename_i d nT; rw [nT]; exact b' h
             · rename_i nT; rw [nT]; exact b' h
           · cases h
         · cases h
       · rename_i hw;rw [Df] at hw;refine iN.ew eh hw hd ?_;split at h
         · rename_i d nT; rw [nT]; exact b' h
         · rename_i nT; rw [nT]; exact b' h
       · cases h
     · cases h
   · cases h
theorem iN.mN{ops:Array Oper}{o:Oper}{i:Nat}{l:List Nat}{E:Env}{k:List Item}{v:Value}(eh:ops[i]?=some o)(dH:bx P o E (λan=>an=eF) v)(h:iN P f R n C A N eF Z ops l (pu o.dst v E) k w)
 (bf:A i=false:=by exact rfl) (ho:N i=true:=by exact rfl) (hw:want n ops E o.guard=some true:=by exact rfl) (hd:kh n o.dst=true:=by exact rfl):iN P f R n C A N eF Z ops (i::l) E k w:=iN.acm eh bf ho dH hw hd h
theorem iN.ou{ops:Array Oper}{o:Oper}{i:Nat}{l:List Nat}{E:Env}{k:List Item}{v:Value}(eh:ops[i]?=some o)(dH:bx P o E C v)(h:iN P f R n C A N eF Z ops l (pu o.dst v E) k w)
 (bf:A i=false:=by exact rfl) (ho:N i=false:=by exact rfl) (hw:want n ops E o.guard=some true:=by exact rfl) (hd:kh n o.dst=true:=by exact rfl):iN P f R n C A N eF Z ops (i::l) E k w:=iN.Sk eh bf ho dH hw hd h
theorem iN.ac{ops:Array Oper}{o:Oper}{i:Nat}{l:List Nat}{E:Env}{k:List Item}(eh:ops[i]?=some o)(aw:gB P o E w (λv an=>(i=Z\/C an)/\iN P f R n C A N eF Z ops l (pu o.dst v E) k an))
 (bf:A i=true:=by exact rfl) (hw:want n ops E o.guard=some true:=by exact rfl) (hd:kh n o.dst=true:=by exact rfl):iN P f R n C A N eF Z ops (i::l) E k w:=iN.act eh bf hw hd aw
end
end Go.py
namespace Go.aH
theorem cP{p:Prop}(h:p:=by first|omega|assumption):p:=h
theorem aV{p:Prop}(h:p:=by first|assumption|omega):p:=h
theorem ol{p:Prop}(h:p:=by first|omega|(simp only[List.length_append,List.length_cons,List.length_nil];omega)|(simp;omega)):p:=h
theorem fD{p:Prop}(h:p:=by unfold maxLen;first|omega|(simp only[List.length_append,List.length_cons,List.length_nil];omega)|(simp;omega)):p:=h
section
variable {R bS:Nat->Prop} {w0 w an:World} {L:List (dk R)} {A:dk R} {α:Type} {enc:α->List Value} {e:TypeId} {sz:Nat} {v:Value} {l:List α}
theorem au.b4(h:au R bS w0 w L)(i:Nat)(ar:L[i]?=some (aS enc e sz v l):=by exact rfl):∃g,Acc enc e sz w g v l/\g<=w.heap.size/\∀(an:World) (fv:Nat) (gQ:Value) (jV:List α),Mod (b_ g) w an->Acc enc e sz an fv gQ jV->(fv=g\/w.heap.size<fv)->au R bS w0 an (L.set i (aS enc e sz gQ jV)):=h.ad2 ar
theorem au.ec(h:au R bS w0 w L)(i:Nat)(ar:L[i]?=some A:=by exact rfl):∃F,A.p F w/\(∀b,F b->((bS b\/w0.heap.size<=b)/\¬ R b)/\b<w.heap.size)/\∀(an:World) (F':Nat->Prop) (A':dk R),Mod F w an->A'.p F' an->(∀b,F' b->b<an.heap.size/\(F b\/w.heap.size<=b))->au R bS w0 an (L.set i A'):=h.act ar
theorem au.nL(h:au R bS w0 w L)(i:Nat)(ar:L[i]?=some A:=by exact rfl):∃F,A.p F w/\∀b,F b->b<w.heap.size:=h.get ar
theorem au.fM{α:Type}{A:α->dk R}(h:au R bS w0 w L)(i:Nat)(ar:L[i]?=some (nK A):=by exact rfl):∃a,au R bS w0 w (L.set i (A a)):=h.Mw ar
theorem au.gf{vs:List (Value×List α)}(h:au R bS w0 w L)(i k:Nat)(ar:L[i]?=some (fa enc vs):=by exact rfl)(hk:vs[k]?=some (v,l):=by exact rfl):aq enc w (dq 0 w.heap.size) v l:=h.ch ar hk
theorem au.u(h:au R bS w0 w L)(i:Nat)(is:List Nat){L2:List (dk R)}(ar:L[i]?=some (bk L2):=by exact rfl)(bj:((is++[i]).all λi=>decide (i<L.length))=true:=by exact rfl)(aN:(is++[i]).Nodup:=by decide):au R bS w0 w ((is.filterMap λi=>L[i]?)++L2):=h.un i ar is bj aN
theorem au.dy(h:au R bS w0 w L)(is:List Nat)(bj:(is.all λi=>decide (i<L.length))=true:=by exact rfl)(aN:is.Nodup:=by decide):au R bS w0 w (is.filterMap λi=>L[i]?):=h.yY is bj aN
theorem au.c8{b:Nat}{cs cs':List Value}{e:TypeId}(h:au R bS w0 w L)(i:Nat)(hm:Mod (b_ (b+1)) w an)(hk:dv an b cs' e)(ar:L[i]?=some (ax b cs e):=by exact rfl):au R bS w0 an (L.set i (ax b cs' e)):=h.oJ ar hm hk
theorem aq.fG{F:Nat->Prop}(h:aq enc w F v l){P:Program}{t:TypeId}{by_:Nat}{g:Bool}{z:List Value}(a8:P.underlying t=some (.slice e))(he:ey P e=some (g,sz,by_,z))(dI:∀x,(enc x).length=sz)(i:Nat)(ar:i<l.length:=by omega):
 ∃x b off,l[i]?=some x/\(∀w,(Instr.indexAt t v (.int .i64 (i:Int))).run P w=.ok (ptr b off) w)/\F b/\Row w b off (enc x):=aq.jG h a8 he dI (k:=.i64) (n:=(i:Int)) i rfl ar
end
section
variable {w:World} {b:Nat} {cs:List Value} {e:TypeId}
theorem dv.c1{fg:Value}(h:dv w b cs e)(ao:cs=[fg]:=by exact rfl):dv w b [fg] e:=ao▸h
theorem dv.c2{fg fQ:Value}(h:dv w b cs e)(ao:cs=[fg,fQ]:=by exact rfl):dv w b [fg,fQ] e:=ao▸h
theorem dv.hE{fg fQ gD:Value}(h:dv w b cs e)(ao:cs=[fg,fQ,gD]:=by exact rfl):dv w b [fg,fQ,gD] e:=ao▸h
theorem dv.xY{fg fQ gD hI iG jK kS:Value}(h:dv w b cs e)(ao:cs=[fg,fQ,gD,hI,iG,jK,kS]:=by exact rfl):dv w b [fg,fQ,gD,hI,iG,jK,kS] e:=ao▸h
theorem dv.vo{fg fQ gD hI iG jK kS mw:Value}(h:dv w b cs e)(ao:cs=[fg,fQ,gD,hI,iG,jK,kS,mw]:=by exact rfl):dv w b [fg,fQ,gD,hI,iG,jK,kS,mw] e:=ao▸h
theorem dv.vp{fg fQ gD hI iG jK kS mw pn qF sB:Value}(h:dv w b cs e)(ao:cs=[fg,fQ,gD,hI,iG,jK,kS,mw,pn,qF,sB]:=by exact rfl):dv w b [fg,fQ,gD,hI,iG,jK,kS,mw,pn,qF,sB] e:=ao▸h
theorem dv.XK{fg fQ gD hI iG jK kS mw pn qF sB zl:Value}(h:dv w b cs e)(ao:cs=[fg,fQ,gD,hI,iG,jK,kS,mw,pn,qF,sB,zl]:=by exact rfl):dv w b [fg,fQ,gD,hI,iG,jK,kS,mw,pn,qF,sB,zl] e:=ao▸h
theorem dv.wJ{fg fQ gD hI iG jK kS mw pn qF sB zl XL XM XN XO XP XQ:Value}(h:dv w b cs e)(ao:cs=[fg,fQ,gD,hI,iG,jK,kS,mw,pn,qF,sB,zl,XL,XM,XN,XO,XP,XQ]:=by exact rfl):dv w b [fg,fQ,gD,hI,iG,jK,kS,mw,pn,qF,sB,zl,XL,XM,XN,XO,XP,XQ] e:=ao▸h
end
abbrev e4(da db:Value)(c:ak.cD)(l:List Value):List Value:=da::db::.int .i64 c.workers::.int .i64 c.lK::.int .i64 c.s3::.int .i64 c.batch::.int .i64 c.s4::.int .i64 c.s5::.int .i64 c.first::.int .i64 c.cap::.int .i64 c.s6::.int .i64 c.s7::l
abbrev oP(da db:Value)(c:ak.cD):Value:=.agg #[da,db,.int .i64 c.workers,.int .i64 c.lK,.int .i64 c.s3,.int .i64 c.batch,.int .i64 c.s4,.int .i64 c.s5,.int .i64 c.first,.int .i64 c.cap,.int .i64 c.s6,.int .i64 c.s7]
end Go.aH
abbrev cm(w:Go.World):Nat->Prop:=Go.aH.dq 0 w.heap.size
theorem eB(w:Go.World):Go.aH.Ext w w:=Go.aH.Mod.refl _ w
abbrev bI(g:Go.FuncId)(a:Array Go.Value)(w:Go.World)(R:Go.Ending->Go.World->Prop):Prop:=Go.Calls Go.Proofs.Tryz.prog g a w R
namespace Go.Proofs
open Tryz
open Go.aH Go.ak
theorem mixed:Tryz.prog.follows .mixedOrders=true:=aQ
theorem aJ:ey Tryz.prog 3=some (false,1,8,[ad]):=aQ
theorem fh:ey Tryz.prog 4=some (false,1,1,[.bool false]):=aQ
theorem km:ey Tryz.prog 5=some (false,1,1,[.int .u8 0]):=aQ
theorem dP:ey Tryz.prog 9=some (false,1,16,[aE []]):=aQ
theorem hU:ey Tryz.prog 21=some (false,1,4,[.int .i32 0]):=aQ
theorem po:ey Tryz.prog 23=some (false,1,24,[.slice none 0 0]):=aQ
theorem vq:ey Tryz.prog 24=some (false,1,24,[.slice none 0 0]):=aQ
theorem kx:ey Tryz.prog 26=some (true,12,128,[.slice none 0 0,.slice none 0 0,ad,ad,ad,ad,ad,ad,ad,ad,ad,ad]):=aQ
theorem gx:ey Tryz.prog 33=some (true,2,24,[ad,aE []]):=aQ
theorem dZ:ey Tryz.prog 35=some (true,11,104,[ad,ad,ad,ad,ad,aE [],ad,ad,.bool false,ad,aE []]):=aQ
theorem tr:ey Tryz.prog 47=some (false,1,24,[.slice none 0 0]):=aQ
theorem pO:ey Tryz.prog 57=some (false,1,24,[.slice none 0 0]):=aQ
theorem vr:ey Tryz.prog 93=some (false,1,8,[.pointer none]):=aQ
theorem ri:ey Tryz.prog 99=some (false,1,8,[.pointer none]):=aQ
theorem ma:ey Tryz.prog 110=some (true,2,24,[ad,aE []]):=aQ
theorem sD:ey Tryz.prog 120=some (false,1,24,[.slice none 0 0]):=aQ
theorem Dh:ey Tryz.prog 157=some (false,1,8,[.nilFunc]):=aQ
theorem N0:ey Tryz.prog 162=some (false,1,8,[.map none]):=aQ
theorem j':ey Tryz.prog 172=some (true,2,16,[ad,ad]):=aQ
theorem xZ:ey Tryz.prog 173=some (false,1,24,[.slice none 0 0]):=aQ
theorem x0:ey Tryz.prog 174=some (false,1,8,[.map none]):=aQ
theorem lG:ey Tryz.prog 219=some (false,1,24,[.slice none 0 0]):=aQ
theorem oQ:ey Tryz.prog 221=some (true,2,32,[.bool false,.slice none 0 0]):=aQ
theorem FB:ey Tryz.prog 225=some (false,1,24,[.slice none 0 0]):=aQ
theorem sE:ey Tryz.prog 228=some (true,3,48,[ad,.slice none 0 0,aE []]):=aQ
theorem eN:ey Tryz.prog 233=some (true,2,16,[.int .i32 0,ad]):=aQ
theorem ka:ey Tryz.prog 238=some (true,2,32,[.bool false,.slice none 0 0]):=aQ
theorem oR:ey Tryz.prog 262=some (false,1,24,[.slice none 0 0]):=aQ
theorem Bc:ey Tryz.prog 268=some (true,2,16,[ad,ad]):=aQ
theorem XR:ey Tryz.prog 281=some (false,1,8,[.map none]):=aQ
theorem FC:ey Tryz.prog 285=some (false,1,8,[.nilFunc]):=aQ
theorem Di:dF Tryz.prog 26 0=some 0:=aQ
theorem vt:dF Tryz.prog 26 1=some 1:=aQ
theorem x1:dF Tryz.prog 26 2=some 2:=aQ
theorem Jr:dF Tryz.prog 26 3=some 3:=aQ
theorem XS:dF Tryz.prog 26 4=some 4:=aQ
theorem XT:dF Tryz.prog 26 5=some 5:=aQ
theorem XU:dF Tryz.prog 26 6=some 6:=aQ
theorem XV:dF Tryz.prog 26 7=some 7:=aQ
theorem Js:dF Tryz.prog 26 8=some 8:=aQ
theorem XW:dF Tryz.prog 26 9=some 9:=aQ
theorem XX:dF Tryz.prog 26 10=some 10:=aQ
theorem XY:dF Tryz.prog 26 11=some 11:=aQ
theorem x3:dF Tryz.prog 33 0=some 0:=aQ
theorem zm:dF Tryz.prog 33 1=some 1:=aQ
theorem ts:dF Tryz.prog 35 0=some 0:=aQ
theorem sF:dF Tryz.prog 35 1=some 1:=aQ
theorem qG:dF Tryz.prog 35 2=some 2:=aQ
theorem x4:dF Tryz.prog 35 3=some 3:=aQ
theorem zn:dF Tryz.prog 35 4=some 4:=aQ
theorem Bd:dF Tryz.prog 35 5=some 5:=aQ
theorem Be:dF Tryz.prog 35 6=some 6:=aQ
theorem Bf:dF Tryz.prog 35 7=some 7:=aQ
theorem Jt:dF Tryz.prog 35 8=some 8:=aQ
theorem zo:dF Tryz.prog 35 9=some 9:=aQ
theorem wK:dF Tryz.prog 110 0=some 0:=aQ
theorem Bg:dF Tryz.prog 110 1=some 1:=aQ
theorem XZ:dF Tryz.prog 123 0=some 0:=aQ
theorem FD:dF Tryz.prog 123 1=some 1:=aQ
theorem N1:dF Tryz.prog 164 0=some 0:=aQ
theorem Ju:dF Tryz.prog 164 1=some 1:=aQ
theorem ajf:dF Tryz.prog 172 0=some 0:=aQ
theorem x5:dF Tryz.prog 176 0=some 0:=aQ
theorem x6:dF Tryz.prog 176 1=some 1:=aQ
theorem ajg:dF Tryz.prog 217 0=some 0:=aQ
theorem Jv:dF Tryz.prog 217 1=some 1:=aQ
theorem r1:dF Tryz.prog 217 2=some 2:=aQ
theorem ajh:dF Tryz.prog 221 0=some 0:=aQ
theorem wL:dF Tryz.prog 221 1=some 1:=aQ
theorem FE:dF Tryz.prog 228 0=some 0:=aQ
theorem FF:dF Tryz.prog 228 1=some 1:=aQ
theorem FG:dF Tryz.prog 228 2=some 2:=aQ
theorem rj:dF Tryz.prog 233 0=some 0:=aQ
theorem rk:dF Tryz.prog 233 1=some 1:=aQ
theorem FH:dF Tryz.prog 238 0=some 0:=aQ
theorem um:dF Tryz.prog 238 1=some 1:=aQ
theorem oS:dF Tryz.prog 264 0=some 0:=aQ
theorem Dj:dF Tryz.prog 268 0=some 0:=aQ
theorem N2:dF Tryz.prog 268 1=some 1:=aQ
theorem zp:dF Tryz.prog 283 0=some 0:=aQ
theorem X0:dF Tryz.prog 283 1=some 1:=aQ
theorem N3(a b:b1)(w:World):(Op.equalIn 10000 33 (.agg #[U a.ck,aE a.word]) (.agg #[U b.ck,aE b.word])).run Tryz.prog w=.ok (decide (a=b)) w:=
 CB (ks:=[(0,.int .i64),(1,.str)]) cY cY cY (by
  obtain⟨a0,h9⟩:=a
  obtain⟨m',aK⟩:=b
  (by_cases bK:a0=m')<;>(first|(have g0:=beq_eq_false_iff_ne.2 bK)|(have g0:=beq_iff_eq.2 bK))<;>(by_cases h1:h9=aK)<;>(first|(have g1:=beq_eq_false_iff_ne.2 h1)|(have g1:=beq_iff_eq.2 h1))<;>simp[mo,nh,aE,toList_mk,bK,h1,g0,g1]) w
theorem aji(a b:(Int×Int))(w:World):(Op.equalIn 10000 172 (.agg #[U a.1,U a.2]) (.agg #[U b.1,U b.2])).run Tryz.prog w=.ok (decide (a=b)) w:=
 CB (ks:=[(0,.int .i64),(1,.int .i64)]) cY cY cY (by
  obtain⟨a0,h9⟩:=a
  obtain⟨m',aK⟩:=b
  (by_cases bK:a0=m')<;>(first|(have g0:=beq_eq_false_iff_ne.2 bK)|(have g0:=beq_iff_eq.2 bK))<;>(by_cases h1:h9=aK)<;>(first|(have g1:=beq_eq_false_iff_ne.2 h1)|(have g1:=beq_iff_eq.2 h1))<;>simp[mo,nh,aE,toList_mk,bK,h1,g0,g1]) w
theorem ajj(a b:ca)(w:World):(Op.equalIn 10000 233 (.agg #[.int .i32 a.rune,U a.to]) (.agg #[.int .i32 b.rune,U b.to])).run Tryz.prog w=.ok (decide (a=b)) w:=
 CB (ks:=[(0,.int .i32),(1,.int .i64)]) cY cY cY (by
  obtain⟨a0,h9⟩:=a
  obtain⟨m',aK⟩:=b
  (by_cases bK:a0=m')<;>(first|(have g0:=beq_eq_false_iff_ne.2 bK)|(have g0:=beq_iff_eq.2 bK))<;>(by_cases h1:h9=aK)<;>(first|(have g1:=beq_eq_false_iff_ne.2 h1)|(have g1:=beq_iff_eq.2 h1))<;>simp[mo,nh,aE,toList_mk,bK,h1,g0,g1]) w
theorem N4:b7 Tryz.prog 23=true:=aQ
theorem X1:b7 Tryz.prog 25=true:=aQ
theorem ajk:b7 Tryz.prog 39=true:=aQ
theorem ajl:b7 Tryz.prog 44=true:=aQ
theorem X2:b7 Tryz.prog 54=true:=aQ
theorem ajm:b7 Tryz.prog 55=true:=aQ
theorem uo:b7 Tryz.prog 56=true:=aQ
theorem N5:b7 Tryz.prog 57=true:=aQ
theorem ajn:b7 Tryz.prog 58=true:=aQ
theorem ajo:b7 Tryz.prog 59=true:=aQ
theorem Dk:b7 Tryz.prog 60=true:=aQ
theorem FI:b7 Tryz.prog 61=true:=aQ
theorem ajp:b7 Tryz.prog 79=true:=aQ
theorem X3:b7 Tryz.prog 82=true:=aQ
theorem X4:b7 Tryz.prog 85=true:=aQ
theorem ajq:b7 Tryz.prog 90=true:=aQ
theorem ajr:b7 Tryz.prog 91=true:=aQ
theorem Jw:b7 Tryz.prog 96=true:=aQ
theorem ajs:b7 Tryz.prog 97=true:=aQ
theorem ajt:b7 Tryz.prog 98=true:=aQ
theorem aju:b7 Tryz.prog 99=true:=aQ
theorem ajv:b7 Tryz.prog 100=true:=aQ
theorem N6:b7 Tryz.prog 102=true:=aQ
theorem N7:b7 Tryz.prog 103=true:=aQ
theorem Jx:b7 Tryz.prog 104=true:=aQ
theorem X5:b7 Tryz.prog 105=true:=aQ
theorem ajw:b7 Tryz.prog 106=true:=aQ
theorem N8:b7 Tryz.prog 107=true:=aQ
theorem ajx:b7 Tryz.prog 124=true:=aQ
theorem ajy:b7 Tryz.prog 125=true:=aQ
theorem N9:b7 Tryz.prog 126=true:=aQ
theorem ajz:b7 Tryz.prog 127=true:=aQ
theorem X6:b7 Tryz.prog 133=true:=aQ
theorem X7:b7 Tryz.prog 134=true:=aQ
theorem ajA:b7 Tryz.prog 135=true:=aQ
theorem X8:b7 Tryz.prog 136=true:=aQ
theorem X9:b7 Tryz.prog 137=true:=aQ
theorem wM:b7 Tryz.prog 138=true:=aQ
theorem ajB:b7 Tryz.prog 139=true:=aQ
theorem ajC:b7 Tryz.prog 140=true:=aQ
theorem ajD:b7 Tryz.prog 141=true:=aQ
theorem ajE:b7 Tryz.prog 142=true:=aQ
theorem ajF:b7 Tryz.prog 143=true:=aQ
theorem X_:b7 Tryz.prog 144=true:=aQ
theorem Dl:b7 Tryz.prog 145=true:=aQ
theorem Jy:b7 Tryz.prog 146=true:=aQ
theorem Jz:b7 Tryz.prog 147=true:=aQ
theorem ajG:b7 Tryz.prog 148=true:=aQ
theorem ajH:b7 Tryz.prog 149=true:=aQ
theorem N_:b7 Tryz.prog 150=true:=aQ
theorem ajI:b7 Tryz.prog 166=true:=aQ
theorem X':b7 Tryz.prog 170=true:=aQ
theorem Ya:b7 Tryz.prog 171=true:=aQ
theorem ajJ:b7 Tryz.prog 172=true:=aQ
theorem ajK:b7 Tryz.prog 173=true:=aQ
theorem ajL:b7 Tryz.prog 174=true:=aQ
theorem ajM:b7 Tryz.prog 175=true:=aQ
theorem ajN:b7 Tryz.prog 176=true:=aQ
theorem N':b7 Tryz.prog 177=true:=aQ
theorem Yb:b7 Tryz.prog 178=true:=aQ
theorem ajO:b7 Tryz.prog 179=true:=aQ
theorem ajP:b7 Tryz.prog 180=true:=aQ
theorem ajQ:b7 Tryz.prog 181=true:=aQ
theorem ajR:b7 Tryz.prog 182=true:=aQ
theorem Oa:b7 Tryz.prog 183=true:=aQ
theorem FJ:b7 Tryz.prog 194=true:=aQ
theorem wN:b7 Tryz.prog 195=true:=aQ
theorem ajS:b7 Tryz.prog 196=true:=aQ
theorem JA:b7 Tryz.prog 197=true:=aQ
theorem Ob:b7 Tryz.prog 198=true:=aQ
theorem ajT:b7 Tryz.prog 208=true:=aQ
theorem Yc:b7 Tryz.prog 209=true:=aQ
theorem Yd:b7 Tryz.prog 210=true:=aQ
theorem ajU:b7 Tryz.prog 219=true:=aQ
end Go.Proofs
namespace Go.Proofs
open Tryz
open Go.aH Go.ak
theorem ajV{w0:World}(c:Nat)(b:UInt8)(gr:c<4294967296):
 bI 196 #[.int .u32 (c:Int),.int .u8 (b.toNat:Int)] w0 (al λaC ai=>aC=.int .u32 ((u9 c b.toNat:Nat):Int)/\Ext w0 ai):=by
 have bA:=eB w0;have TG:=b.toNat_lt;refine bR func196 rfl ntmps196 rfl (.go 8 rfl (.z (.oe cY underlying213 rfl (IntWalk.u32_in _ aa)) (have asV:=xD (a:=c) (b:=b.toNat) aa aa;.z (.Mx (a:=c) (b:=b.toNat) rfl rfl aa aa) (.ae 8 rfl (dW (I:=λm E W=>∃(c1:Nat) (k:Nat),E=[(0,.int .u32 (c1:Int)),(10,U (k:Int))]/\m=8-k/\Ext w0 W/\w0.heap.size<=W.heap.size/\(c1=q8 k (c ^^^ b.toNat))/\(c1<4294967296)/\(k<=8)) ?_ ?_)))))
 . refine⟨_,_,⟨(c ^^^ b.toNat:Nat),(0:Nat),rfl,rfl,bA,Nat.le_refl _,dw,aa,aa⟩,bm⟩
 . rintro _ _ ai ⟨c1,k,rfl,rfl,bJ,hh,ao,hM,x7⟩ b5;refine .go 2 rfl (.bg (.lt rfl rfl) (λaG=>?_) λaG=>?_)
   . refine .go 9 rfl (.z (.ad9 (a:=c1) rfl rfl aa) (.go 5 rfl (.z (.ac' ((c1 / 2:Nat):Int) rfl rfl aa) (.go 5 rfl (.gl (.eq rfl rfl) (λaL=>?_) λaL=>?_)))))
     . exact .ae 1 rfl (have asW:=xD (a:=c1 / 2) (b:=3988292384) aa aa;.go 3 rfl (.z (.Mx (a:=c1 / 2) (b:=3988292384) rfl rfl aa aa) (.go 4 rfl (.z (.cd ((k+1:Nat):Int) rfl rfl aa) (.ae 2 rfl ((b5 _ _ _ ⟨((c1 / 2) ^^^ 3988292384:Nat),(k+1:Nat),rfl,rfl,bJ,aa,(by first|exact Uv ao aa|exact Uw ao aa|(exfalso;omega)),e9,e9⟩ aa).sub bm))))))
     exact .go 5 rfl (.z (.cd ((k+1:Nat):Int) rfl rfl aa) (.ae 2 rfl ((b5 _ _ _ ⟨(c1 / 2:Nat),(k+1:Nat),rfl,rfl,bJ,aa,(by first|exact Uv ao aa|exact Uw ao aa|(exfalso;omega)),e9,e9⟩ aa).sub bm)))
   exact .ae 9 rfl (aM func196 rfl rfl (al.mk ⟨(congrArg (Value.int .u32) (by first|(rw[ao,show k=8 from by omega];rfl)|(exfalso;omega))),bJ⟩))
theorem ajW{w0:World}(c:Nat){ej:Value}{b:List UInt8}(gr:c<4294967296)(gK:aq eA w0 (cm w0) ej b)(kt:b.length<=4000000):
 bI 173 #[.int .u32 (c:Int),ej] w0 (al λaC ai=>aC=.int .u32 ((AV c b:Nat):Int)/\Ext w0 ai):=by
 have bA:=eB w0;refine bR func173 rfl ntmps173 rfl (.go 7 rfl (.z (.H5 (a:=c) rfl aa) (.go 6 rfl (.z (.ct underlying120 (gK) rfl) (.ae 3 rfl (dW (I:=λm E W=>∃(c1:Nat) (k:Nat),E=[(0,.int .u32 (c1:Int)),(9,ej),(10,U (b.length:Int)),(11,U (k:Int))]/\m=b.length-k/\Ext w0 W/\w0.heap.size<=W.heap.size/\aq eA W (cm w0) ej b/\(c1=rS (4294967295-c) (b.take k))/\(c1<4294967296)/\(k<=b.length)) ?_ ?_))))))
 . refine⟨_,_,⟨(4294967295-c:Nat),(0:Nat),rfl,rfl,bA,Nat.le_refl _,gK,dw,aa,aa⟩,bm⟩
 . rintro _ _ ai ⟨c1,k,rfl,rfl,bJ,hh,f1,ao,hM,mO⟩ b5;refine .go 2 rfl (.bg (.lt rfl rfl) (λaG=>?_) λaG=>?_)
   . refine .ae 2 rfl ?_;obtain⟨ay,aR,fb,ba,bV,cz,jn,cL⟩:=aq.fK f1 underlying120 km oa (k:=.i64) (n:=(k:Int)) (k) aa aV;refine .go 6 rfl (.z (.indexAddr rfl rfl bV) (.z (.dN km cL) (.go 5 rfl (.ac (.aF ajS rfl (ajV (w0:=ai)  (c1) (ay) cP) ?_)))));rintro _ a1 ⟨rfl,av⟩;have f2:=f1.ext av;have bN:=bJ.ext av;have i6:=av.size;exact .go 4 rfl (.z (.cd ((k+1:Nat):Int) rfl rfl aa) (.ae 2 rfl ((b5 _ _ _ ⟨(u9 c1 ay.toNat:Nat),(k+1:Nat),rfl,rfl,bN,aa,f2,(by first|(rw[Uu ba,<-ao])|(exfalso;omega)),(by first|exact AW hM ay.toNat_lt|(exfalso;omega)),e9⟩ aa).sub bm)))
   exact .go 7 rfl (.z (.H5 (a:=c1) rfl aa) (.ae 2 rfl (aM func173 rfl rfl (al.mk ⟨(congrArg (Value.int .u32) (by first|(rw[ao,List.take_of_length_le aa];rfl)|(exfalso;omega))),bJ⟩))))
theorem Ye{w0:World}{ej:Value}{b:List UInt8}(gK:aq eA w0 (cm w0) ej b)(kt:b.length<=4000000):
 bI 137 #[ej] w0 (al λaC ai=>aC=.int .u32 ((kD b:Nat):Int)/\Ext w0 ai):=by
 have bA:=eB w0;refine bR func137 rfl ntmps137 rfl (.go 7 rfl (.ac (.aF ajK rfl (ajW (w0:=w0) (b:=b) (0) cP ((gK).cB (Nat.zero_le _) aa) lQ) ?_)));rintro _ ai ⟨rfl,av⟩;have bJ:=bA.ext av;exact .ae 2 rfl (aM func137 rfl rfl (al.mk ⟨(congrArg (Value.int .u32) dw),bJ⟩))
theorem FK{w0:World}{ky:Value}{s:List UInt8}(ov:aq eA w0 (cm w0) ky s)(FL:s.length<=4000000):
 bI 61 #[ky] w0 (al λaC ai=>(∃dm,Acc eA 5 1 ai dm aC (s)/\(dm=0\/w0.heap.size<dm))/\Ext w0 ai):=by
 have bA:=eB w0;refine bR func61 rfl ntmps61 rfl ?_;obtain⟨bZ,b0,ef,cr⟩:=aq.isNil (ov);refine .go 8 rfl ?_;subst ef;refine .ee (.Mo underlying120 rfl rfl) λaK aG=>.ae 1 rfl ?_
 cases aK
 case true =>
  replace aG:=aG.symm;replace cr:=cr aG;exact .ae 5 rfl (aM func61 rfl rfl (al.mk ⟨⟨0,Acc.cast Acc.nil Dm,.inl rfl⟩,bA⟩))
 replace aG:=aG.symm;exact .go 4 rfl (.ac (.buildSlice [] underlying120 km rfl rfl rfl b2 λai aR av aL eg aW=>have f1:=ov.ext av;have bJ:=bA.ext av;have cz:=Acc.eD (enc:=eA) aW ([]:List UInt8) 0 rfl oa rfl eS;.go 1 rfl (.ac (.append cz underlying120 km rfl oa Cm rfl rfl (f1) ol fD λv1 g1 a1 cc aA b6 fA=>have bN:=Ext.hb bJ aA aa;.ae 2 rfl (aM func61 rfl rfl (al.mk ⟨⟨_,Acc.cast cc Dm,by omega⟩,bN⟩))))))
theorem wO{w0:World}{ej:Value}{b:List UInt8}(n:Int)(size:Nat)(gK:aq eA w0 (cm w0) ej b)(kt:b.length<=4000000)(dI:size<=8):
 bI 195 #[ej,U n,U (size:Int)] w0 (al λaC ai=>(∃dm,Acc eA 5 1 ai dm aC (b++fk n size)/\(dm=0\/w0.heap.size<dm))/\Ext w0 ai):=by
 have bA:=eB w0;refine bR func195 rfl ntmps195 rfl (.go 7 rfl (.ac (.aF FI rfl (FK (w0:=w0) (s:=b)  ((gK).cB (Nat.zero_le _) aa) aV) ?_)));rintro v1 ai ⟨⟨ic,h1,b6⟩,av⟩;have bJ:=bA.ext av;have hh:=av.size;refine .go 5 rfl (.z (.max rfl rfl) (.z (.min rfl rfl) ?_));rw[show(min (max (size:Int) 0) 8)=(size:Int) from by omega];refine .ae 9 rfl (dW (I:=λm E W=>∃(lH:Value) (kb:Nat) (out:List UInt8) (i:Nat),E=[(1,U n),(2,U (size:Int)),(7,lH),(14,U (size:Int)),(15,U (i:Int))]/\m=size-i/\Ext w0 W/\ai.heap.size<=W.heap.size/\Acc eA 5 1 W kb lH out/\(kb=0\/w0.heap.size<kb)/\(out=b++(fk n size).take i)/\(out.length=b.length+i)/\(i<=size)) ?_ ?_)
 . refine⟨_,_,⟨(v1:Value),(ic:Nat),((b):List UInt8),(0:Nat),rfl,rfl,bJ,Nat.le_refl _,h1,aa,dg,dg,aa⟩,bm⟩
 . rintro _ _ a1 ⟨lH,kb,out,i,rfl,rfl,bN,i6,cc,eH,eh,ih,nb⟩ b5;refine .go 2 rfl (.bg (.lt rfl rfl) (λaG=>?_) λaG=>?_)
   . refine .go 14 rfl (.z (.rG cY underlying260 rfl) (.go 1 rfl (.z (.hY ((size:Int)-1) rfl rfl aa) (.go 1 rfl (.z (.hY (((size:Int)-1)-(i:Int)) rfl rfl aa) (.z (.Sm ((8*((size-1)-i):Nat):Int) rfl rfl aa) (.z (.oe cY underlying96 rfl (IntWalk.u64_in _ aa)) (.z (.My (8*((size-1)-i)) rfl rfl aa (by simp only[IntKind.bits];omega)) (.z (.sr cY underlying5 rfl) (.ac (.buildSlice [(.int .u8 ((gC ((IntKind.u64.wrap n) / 2 ^ (8*((size-1)-i)))).toNat:Int):Value)] underlying120 km rfl rfl rfl b2 λbp aR aA aL cr aW=>have f2:=cc.ext aA;have cj:=bN.ext aA;have dr:=aq.eD (enc:=eA) aW ([(gC ((IntKind.u64.wrap n) / 2 ^ (8*((size-1)-i))))]:List UInt8) 1 rfl rfl eS;.ac (.append f2 underlying120 km rfl oa Cm rfl rfl (dr) ol fD λv2 g1 bW dU aP jL eg=>?_))))))))))));have eK:=Ext.hb cj aP aa;exact .go 4 rfl (.z (.cd ((i+1:Nat):Int) rfl rfl aa) (.ae 2 rfl ((b5 _ _ _ ⟨(v2:Value),(g1:Nat),((out++[(gC ((IntKind.u64.wrap n) / 2 ^ (8*((size-1)-i))))]):List UInt8),(i+1:Nat),rfl,rfl,eK,aa,dU,aa,(by first|exact Uy eh aa rfl|(exfalso;omega)),ap,e9⟩ aa).sub bm)))
   exact .ae 9 rfl (aM func195 rfl rfl (al.mk ⟨⟨_,Acc.cast cc (by first|(rw[eh,List.take_of_length_le (by rw[ib];omega)])|(exfalso;omega)),by omega⟩,bN⟩))
theorem uq{p:Prop}(h:p:=by first|exact(Ie aa).1|exact(Ie aa).2|(rw[aN,<-(Ig aa).1,show i=size from by omega];simp)|exact(Ig aa).2|(exfalso;omega)):p:=h
theorem ur{p:Prop}(h:p:=by omega):p:=h
theorem Yf{w0:World}{ej:Value}{b:List UInt8}(at_:Int)(size:Nat)(gK:aq eA w0 (cm w0) ej b)(Yg:bY at_)(kt:b.length<=4000000)(dI:1<=size/\size<=4):
 bI 136 #[ej,U at_,U (size:Int)] w0 (al λaC ai=>∃eP gk,aC=.tuple #[eP,gk]/\eP=U (j8 b at_ size)/\(∃cu:Bool,cu=(mI b at_ size)/\gk=.bool cu)/\Ext w0 ai):=by
 have bA:=eB w0;refine bR func136 rfl ntmps136 rfl (.go 9 rfl (.bg (.lt rfl rfl) (λaG=>?_) λaG=>?_))
 . exact .ae 29 rfl (cJ func136 rfl rfl rfl (al.mk ⟨_,_,rfl,(cS uq),⟨_,uq,rfl⟩,bA⟩))
 refine .go 2 rfl (.bg (.gt rfl rfl) (λaL=>?_) λaL=>?_)
 . exact .ae 26 rfl (cJ func136 rfl rfl rfl (al.mk ⟨_,_,rfl,(cS uq),⟨_,uq,rfl⟩,bA⟩))
 refine .go 3 rfl (.bg (.lt rfl rfl) (λaX=>?_) λaX=>?_)
 . exact .ae 22 rfl (cJ func136 rfl rfl rfl (al.mk ⟨_,_,rfl,(cS uq),⟨_,uq,rfl⟩,bA⟩))
 refine .go 4 rfl (.z (.ct underlying120 (gK) rfl) (.bg (.gt rfl rfl) (λbq=>?_) λbq=>?_))
 . exact .ae 16 rfl (cJ func136 rfl rfl rfl (al.mk ⟨_,_,rfl,(cS uq),⟨_,uq,rfl⟩,bA⟩))
 refine .go 4 rfl (.z (.ct underlying120 (gK) rfl) (.go 1 rfl (.z (.hY ((b.length:Int)-at_) rfl rfl ur) (.bg (.gt rfl rfl) (λcG=>?_) λcG=>?_))))
 . exact .ae 8 rfl (cJ func136 rfl rfl rfl (al.mk ⟨_,_,rfl,(cS uq),⟨_,uq,rfl⟩,bA⟩))
 refine .ae 15 rfl (dW (I:=λm E W=>∃(n:Nat) (i:Nat),E=[(0,ej),(1,U at_),(8,.int .u64 (n:Int)),(34,U (size:Int)),(35,U (i:Int))]/\m=size-i/\Ext w0 W/\w0.heap.size<=W.heap.size/\aq eA W (cm w0) ej b/\(n=kX ((b.drop at_.toNat).take i))/\(i<=size)) ?_ ?_)
 . refine⟨_,_,⟨(0:Nat),(0:Nat),rfl,rfl,bA,Nat.le_refl _,gK,dw,ur⟩,bm⟩
 . rintro _ _ ai ⟨n,i,rfl,rfl,bJ,hh,f1,aN,nb⟩ b5;have nE:=MG (i:=i) (l:=b.drop at_.toNat) ur;rw[<-aN] at nE;refine .go 2 rfl (.bg (.lt rfl rfl) (λcv=>?_) λcv=>?_)
   . refine .go 13 rfl (.z (.T8 (a:=n) rfl rfl aa) (.go 3 rfl (.z (.cd (at_+(i:Int)) rfl rfl ur) ?_)));obtain⟨ay,gX,fb,ba,bV,cz,jn,cL⟩:=aq.fK f1 underlying120 km oa (k:=.i64) (n:=(at_+(i:Int))) ((at_+(i:Int)).toNat) ur aV;exact .z (.indexAddr rfl rfl bV) (.z (.dN km cL) (have ajX:=ay.toNat_lt;.z (.oe cY underlying260 rfl (IntWalk.u64_in _ ur)) (.z (.T7 (a:=n) (b:=ay.toNat) rfl rfl ur ur) (.go 4 rfl (.z (.cd ((i+1:Nat):Int) rfl rfl ur) (.ae 2 rfl ((b5 _ _ _ ⟨(n*256+ay.toNat:Nat),(i+1:Nat),rfl,rfl,bJ,ur,f1,(by first|refine UA aN ba ?_;omega|(exfalso;omega)),e9⟩ ur).sub bm)))))))
   exact .go 7 rfl (.z (.oe cY underlying3 rfl (IntWalk.i64_in _ ur)) (.ae 3 rfl (cJ func136 rfl rfl rfl (al.mk ⟨_,_,rfl,(cS uq),⟨_,uq,rfl⟩,bJ⟩))))
end Go.Proofs
