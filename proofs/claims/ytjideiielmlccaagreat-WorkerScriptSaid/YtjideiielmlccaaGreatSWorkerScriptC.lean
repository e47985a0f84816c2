/-
  What the law WorkerScript needs, part 3 of 7: theory, and walks through the code. Names are said short.
-/
import Derived.Test.YtjideiielmlccaaGreatSWorkerScriptB
set_option linter.unusedVariables false
set_option linter.unusedSimpArgs false
set_option maxRecDepth 20000
set_option maxHeartbeats 8000000
namespace Go.ak
open Go.aG
theorem MU{a b c:Nat}(h:a ^^^ c=b ^^^ c):a=b:=by
 have:=congrArg (· ^^^ c) h;simpa[Nat.xor_assoc] using this
theorem U7{a b c:Nat}(h:c ^^^ a=c ^^^ b):a=b:=by
 rw[Nat.xor_comm c a,Nat.xor_comm c b] at h;exact MU h
theorem U8{a:Nat}(h:a<2147483648):2147483648<=a ^^^ 3988292384:=by
 have h1:(a ^^^ 3988292384).testBit 31=true:=by
  rw[Nat.testBit_xor,Nat.testBit_lt_two_pow (show a<2 ^ 31 from h)];rfl
 refine Nat.le_of_not_lt λk=>?_
 rw[Nat.testBit_lt_two_pow (show a ^^^ 3988292384<2 ^ 31 from k)] at h1;cases h1
theorem ae'{a b:Nat}(ay:a<4294967296)(ab:b<4294967296)(h:t_ a=t_ b):a=b:=by
 unfold t_ at h;have arA:=U8 (a:=a / 2) aa;have tb:=U8 (a:=b / 2) aa;split at h<;>split at h
 . have:=MU h;omega
 . omega
 . omega
 . omega
theorem MV{a b:Nat}(ay:a<4294967296)(ab:b<4294967296):∀k,q5 k a=q5 k b->a=b
 | 0,h=>h
 | k+1,h=>MV ay ab k (ae' (HY ay k) (HY ab k) h)
theorem afa{c d x:Nat}(al:c<4294967296)(hd:d<4294967296)(ag:x<256)(h:u7 c x=u7 d x):c=d:=
 MU (MV (xy al aa) (xy hd aa) 8 h)
theorem afb{c x y:Nat}(al:c<4294967296)(ag:x<256)(aE:y<256)(h:u7 c x=u7 c y):x=y:=
 U7 (MV (xy al aa) (xy al aa) 8 h)
theorem U9:∀(l:List UInt8) {c d:Nat},c<4294967296->d<4294967296->rN c l=rN d l->c=d
 | [],c,d,_,_,h=>h
 | x::l,c,d,al,hd,h=>afa al hd x.toNat_lt (U9 l (AJ al x.toNat_lt) (AJ hd x.toNat_lt) h)
theorem U_(c:Nat)(a b:List UInt8):rN c (a++b)=rN (rN c a) b:=by unfold rN;rw[List.foldl_append]
theorem afc{l:List UInt8}{k:Nat}{x y:UInt8}(ag:l[k]?=some x)(aE:y≠x):kB (l.set k y)≠kB l:=by
 intro h;have hk:=(List.getElem?_eq_some_iff.1 ag).1
 have fU:l=l.take k++x::l.drop (k+1):=by
  have:=(List.getElem?_eq_some_iff.1 ag).2
  rw[<-this];simp
 have je:l.set k y=l.take k++y::l.drop (k+1):=(by rw[List.set_eq_take_append_cons_drop,if_pos hk]);unfold kB AI at h;have ib:=HZ (l.set k y) (c:=4294967295-0) aa;have a2:=HZ l (c:=4294967295-0) aa;have ah:rN (4294967295-0) (l.set k y)=rN (4294967295-0) l:=(by omega);rw[je] at ah
 conv at ah=>rhs;rw[fU]
 rw[U_,U_] at ah;have aL:=HZ (l.take k) (c:=4294967295-0) aa;have aB:=U9 (l.drop (k+1)) (AJ aL y.toNat_lt) (AJ aL x.toNat_lt) ah;have bH:=afb aL y.toNat_lt x.toNat_lt aB;exact aE (UInt8.toNat.inj bH)
theorem MW{b l:List UInt8}(h:l.length=4):j6 (b++l) (((b++l).length:Int)-4) 4=(kV l:Int):=by
 have bl:(b++l).length=b.length+4:=(by rw[List.length_append,h]);have bW:mK (b++l) (((b++l).length:Int)-4) 4=true:=(by unfold mK;exact decide_eq_true ⟨by omega,by omega,by omega,by omega,by omega⟩);unfold j6;rw[if_pos bW,show(((b++l).length:Int)-4).toNat=b.length from by omega,List.drop_left,show(4:Int).toNat=4 from rfl,List.take_of_length_le aa]
theorem U'{b l:List UInt8}(h:l.length=4):(b++l).take ((b++l).length-4)=b:=by
 rw[List.length_append,h,Nat.add_sub_cancel];simp
theorem afd{N:List cy}{k:Nat}{x y:UInt8}(ag:(kW N)[k]?=some x)(aE:y≠x):iz ((kW N).set k y)=([],9):=by
 have hp:=im (kB (hJ N)) 4;have aT:=CA 0 (hJ N);have afe:=UP (x:=(kB (hJ N):Int)) (.inr (.inr rfl):xE 4) aa (by change (AI 0 (hJ N):Int)<_;omega);have hk:=(List.getElem?_eq_some_iff.1 ag).1;unfold kW xz at ag hk ⊢;rw[List.length_append,hp] at hk;by_cases h:k<(hJ N).length
 . rw[List.set_append_left _ _ h];rw[List.getElem?_append_left h] at ag;refine CI (by rw[List.length_append,hp];omega) ?_;rw[MW hp,U' hp,afe];intro e;exact afc ag aE aa
 . rw[List.set_append_right _ _ aa];rw[List.getElem?_append_right aa] at ag;have wx:((fk (kB (hJ N):Int) 4).set (k-(hJ N).length) y).length=4:=(by rw[List.length_set,hp]);refine CI (by rw[List.length_append,wx];omega) ?_;rw[MW wx,U' wx];intro e;have je:=MN (.inr (.inr rfl):xE 4) wx;rw[e] at je
   have tN:(fk (kB (hJ N):Int) 4)[k-(hJ N).length]?=some y:=by
    rw[je,List.getElem?_set_self (by rw[hp];omega)]
   rw[ag] at tN;exact aE (Option.some.inj tN).symm
theorem arB{b r:List UInt8}{n:Nat}{a f a2:Int}{q:Bool}(h:eb b n (a,q)=(f,(a2,false))):eb (b++r) n (a,q)=(f,(a2,false)):=by
 cases bW:mK b a n with
 | false=>rw[yU bW] at h;simp at h
 | true =>
  rw[va bW] at h;have hk:=bW;unfold mK at hk;have hk:=of_decide_eq_true hk;have pt:mK (b++r) a n=true:=(by unfold mK;rw[List.length_append];exact decide_eq_true ⟨by omega,by omega,by omega,by omega,by omega⟩);rw[va pt,<-h]
  have cK:j6 (b++r) a n=j6 b a n:=by
   unfold j6
   rw[if_pos bW,if_pos pt,List.drop_append_of_le_length aa,List.take_append_of_le_length (by rw[List.length_drop];omega)]
  rw[cK]
theorem aff{b:List UInt8}{s:Int×Bool}(h:s.2=true):∀n,(kq b n s).2=s
 | 0=>rfl
 | n+1=>by unfold kq;rw[if_pos h]
theorem Va{b:List UInt8}:∀(n:Nat) {s:Int×Bool},(kq b n s).2.2=false->s.2=false:=λn s h=>by
 cases aT:s.2 with
 | false=>rfl
 | true=>rw[aff aT,aT] at h;cases h
theorem afg{b:List UInt8}{s:Int×Bool}(h:s.2=true):∀n,(k8 b n s).2=s
 | 0=>rfl
 | n+1=>by unfold k8;rw[if_pos h]
theorem Vb{b:List UInt8}:∀(n:Nat) {s:Int×Bool},(k8 b n s).2.2=false->s.2=false:=λn s h=>by
 cases aT:s.2 with
 | false=>rfl
 | true=>rw[afg aT,aT] at h;cases h
theorem afh{b:List UInt8}(h:(iz b).2=0):∃c a0 N,8<=b.length/\j6 b ((b.length:Int)-4) 4=(kB (b.take (b.length-4)):Int)/\b.take 4=[73,78,75,49]/\eb (b.take (b.length-4)) 2 (4,false)=(c,(a0,false))/\k8 (b.take (b.length-4)) c.toNat (a0,false)=(N,((b.length:Int)-4,false))/\ly N≠[]/\(iz b).1=ly N:=by
 by_cases h1:b.length<4
 . rw[Ip h1] at h;cases h
 by_cases ah:¬ j6 b ((b.length:Int)-4) 4=(kB (b.take (b.length-4)):Int)
 . rw[CI h1 ah] at h;cases h
 have ah:=Classical.not_not.1 ah;by_cases aB:b.length-4<4\/¬ b.take 4=[73,78,75,49]
 . rw[ML h1 ah aB] at h;cases h
 obtain⟨⟨c,a0,q0⟩,bH⟩:∃x,eb (b.take (b.length-4)) 2 (4,false)=x:=⟨_,rfl⟩;obtain⟨⟨N,a,q⟩,c_⟩:∃x,k8 (b.take (b.length-4)) c.toNat (a0,q0)=x:=⟨_,rfl⟩;by_cases e1:q=true\/¬ a=(b.length:Int)-4
 . rw[Iq h1 ah aB bH.symm c_ e1] at h;cases h
 by_cases kz:ly N=[]
 . rw[UL h1 ah aB bH.symm c_ e1 kz] at h;cases h
 have dM:q=false:=by cases q with
  | false=>rfl
  | true=>exact absurd (.inl rfl) e1
 have ay:a=(b.length:Int)-4:=Classical.byContradiction λk=>e1 (.inr k)
 subst dM;subst ay;have MX:q0=false:=Vb _ (by rw[c_]);subst MX;exact⟨c,a0,N,by omega,ah,Classical.byContradiction λk=>aB (.inr k),bH,c_,kz,by rw[MM h1 ah aB bH.symm c_ e1 kz]⟩
theorem afi{b:List UInt8}(h:(iz b).2≠0):(iz b).1=[]:=by
 unfold iz at h ⊢;split
 . rfl
 split
 . rfl
 split
 . rfl
 split
 . rfl
 split
 . rfl
 . rename_i h1 ah aB bH c_;rw[if_neg h1,if_neg ah,if_neg aB,if_neg bH,if_neg c_] at h;exact absurd rfl h
def CM(x:Int):UInt8:=gC (1+(IntKind.u64.wrap x) % 255)
def yZ(b:List UInt8)(at_:Int):Nat:=(Cc at_ (b.length:Int)).toNat
def oB(b:List UInt8)(at_ x:Int):List UInt8:=match b[yZ b at_]? with
 | none=>b
 | some y=>b.set (yZ b at_) (y ^^^ CM x)
theorem afj(x:Int):CM x≠0:=by
 unfold CM;intro h;have h1:=u6 (1+(IntKind.u64.wrap x) % 255);rw[h] at h1;have bH:((0:UInt8).toNat:Int)=0:=rfl;omega
theorem afk(y:UInt8){z:UInt8}(h:z≠0):y ^^^ z≠y:=by
 intro e;apply h;have je:=congrArg UInt8.toNat e;rw[UInt8.toNat_xor] at je;have tN:y.toNat ^^^ z.toNat=y.toNat ^^^ 0:=(by rw[je];simp);exact UInt8.toNat.inj (U7 tN)
theorem MY{b:List UInt8}(h:1<=b.length)(at_:Int):yZ b at_<b.length:=by
 unfold yZ Cc;have ah:=Int.emod_nonneg (IntKind.u64.wrap at_) (by omega:(b.length:Int)≠0);have aB:=Int.emod_lt_of_pos (IntKind.u64.wrap at_) (by omega:(0:Int)<(b.length:Int));omega
theorem MZ{b:List UInt8}{at_ x:Int}{y:UInt8}(h:b[yZ b at_]?=some y):oB b at_ x=b.set (yZ b at_) (y ^^^ CM x):=by unfold oB;rw[h]
theorem afl(b:List UInt8)(at_ x:Int):(oB b at_ x).length=b.length:=by
 unfold oB;split
 . rfl
 . rw[List.length_set]
theorem afm{b:List UInt8}(h:1<=b.length)(at_ x:Int):∃y,b[yZ b at_]?=some y/\oB b at_ x=b.set (yZ b at_) (y ^^^ CM x)/\y ^^^ CM x≠y:=by
 have:=MY h at_;exact⟨_,List.getElem?_eq_getElem this,MZ (List.getElem?_eq_getElem this),afk _ (afj x)⟩
theorem Vc{words:List aj}(h:e6 words=0):10<=(lx words).length:=by
 rw[<-CF h,n4];omega
theorem afn{words:List aj}(h:e6 words=0)(at_ x:Int):iz (oB (lx words) at_ x)=([],9):=by
 have bl:=Vc h;obtain⟨y,h1,ah,aB⟩:=afm (b:=lx words) aa at_ x;rw[ah];rw[<-CF h] at h1 ⊢;exact afd h1 aB
end Go.ak
namespace Go.ak
open Go.aG
theorem E2{b:List UInt8}{n:Nat}{a f a2:Int}{q:Bool}(aR:xE n)(h:eb b n (a,q)=(f,(a2,false))):q=false/\0<=a/\a2=a+n/\a2<=b.length/\0<=f/\f<256 ^ n/\b.drop a.toNat=fk f n++b.drop a2.toNat:=by
 cases bW:mK b a n with
 | false=>rw[yU bW] at h;simp at h
 | true =>
  rw[va bW] at h;have hk:=bW;unfold mK at hk;have hk:=of_decide_eq_true hk;simp only[Prod.mk.injEq] at h;obtain⟨rfl,rfl,rfl⟩:=h
  have cK:j6 b a n=(kV ((b.drop a.toNat).take n):Int):=by
   unfold j6
   rw[if_pos bW,Int.toNat_natCast]
  have bl:((b.drop a.toNat).take n).length=n:=(by rw[List.length_take,List.length_drop];omega);have hp:=Mt (l:=(b.drop a.toNat).take n);rw[bl] at hp;refine⟨rfl,by omega,rfl,by omega,by omega,by rw[cK];have ah:=Int.ofNat_lt.2 hp;rw[Int.natCast_pow] at ah;exact ah,?_⟩;rw[cK,MN aR bl,show(a+(n:Int)).toNat=a.toNat+n from by omega,<-List.drop_drop,List.take_append_drop]
theorem afo{b:List UInt8}{a a2:Int}{q:Bool}{e:cd}(h:rO b (a,q)=(e,(a2,false))):q=false/\0<=a/\0<=a2/\yY e/\b.drop a.toNat=l8 e++b.drop a2.toNat:=by
 unfold rO at h;simp only[Prod.mk.injEq] at h;generalize a':eb b 4 (a,q)=x at *;obtain⟨f,ib,d_⟩:=x;dsimp only at h;generalize cY:eb b 2 (ib,d_ || decide (f>1114111))=y at *;obtain⟨t,a3,fE⟩:=y;dsimp only at h;obtain⟨rfl,h⟩:=h;simp only[Prod.mk.injEq] at h;obtain⟨rfl,rfl⟩:=h;obtain⟨bt,cD,dK,hs,jA,p4,o3⟩:=E2 (.inr (.inl rfl)) cY;obtain⟨rfl,CN⟩:=Bool.or_eq_false_iff.1 bt;obtain⟨rfl,dP,E3,E4,M0,afp,M1⟩:=E2 (.inr (.inr rfl)) a';have bD:¬ f>1114111:=of_decide_eq_false CN;have hw:=wrap32 M0 aa;refine⟨rfl,dP,by omega,⟨by dsimp only;rw[hw];exact M0,by dsimp only;rw[hw];omega,jA,by dsimp only;omega⟩,?_⟩;rw[M1,o3];unfold l8;rw[hw,List.append_assoc]
theorem Vd{b:List UInt8}:∀(n:Nat) {a a2:Int} {es:List cd},kq b n (a,false)=(es,(a2,false))->0<=a->es.length=n/\(∀e∈es,yY e)/\0<=a2/\b.drop a.toNat=es.flatMap l8++b.drop a2.toNat
 | 0,a,a2,es,h,ay=>by
  unfold kq at h
  simp only[Prod.mk.injEq] at h
  obtain⟨rfl,rfl,_⟩:=h
  exact⟨rfl,by simp,ay,by simp⟩
 | n+1,a,a2,es,h,ay=>by
  unfold kq at h
  rw[if_neg dh] at h
  simp only[Prod.mk.injEq] at h
  generalize a':rO b (a,false)=x at *
  obtain⟨e,ib,d_⟩:=x
  dsimp only at h
  generalize cY:kq b n (ib,d_)=y at *
  obtain⟨afq,s2⟩:=y
  dsimp only at h
  obtain⟨rfl,rfl⟩:=h
  have dM:=Va n (s:=(ib,d_)) (by rw[cY])
  dsimp only at dM
  subst dM
  obtain⟨_,cD,dK,hs,jA⟩:=afo a'
  obtain⟨e8,dP,E3,E4⟩:=Vd n cY dK
  refine⟨by rw[List.length_cons,e8],λny he=>?_,E3,by rw[jA,E4,List.flatMap_cons,List.append_assoc]⟩
  rcases List.mem_cons.1 he with rfl|he
  . exact hs
  . exact dP ny he
theorem afr{b:List UInt8}{a a2:Int}{q:Bool}{x:cy}(h:l9 b (a,q)=(x,(a2,false))):q=false/\0<=a/\0<=a2/\xF x/\b.drop a.toNat=kC x++b.drop a2.toNat:=by
 unfold l9 at h;simp only[Prod.mk.injEq] at h;generalize a':eb b 1 (a,q)=ax at *;obtain⟨f,ib,d_⟩:=ax;dsimp only at h;generalize cY:eb b 2 (ib,d_ || decide (f>1))=y at *;obtain⟨c,a3,fE⟩:=y;dsimp only at h;generalize e0:kq b c.toNat (a3,fE)=z at *;obtain⟨es,arC⟩:=z;dsimp only at h;obtain⟨rfl,rfl⟩:=h;have dM:=Va _ (s:=(a3,fE)) (by rw[e0]);dsimp only at dM;subst dM;obtain⟨bt,cD,dK,hs,jA,p4,o3⟩:=E2 (.inr (.inl rfl)) cY;obtain⟨rfl,CN⟩:=Bool.or_eq_false_iff.1 bt;obtain⟨rfl,dP,E3,E4,M0,afp,M1⟩:=E2 (.inl rfl) a';obtain⟨m1,m2,m3,m4⟩:=Vd _ e0 aa;have bD:¬ f>1:=of_decide_eq_false CN;refine⟨rfl,dP,m3,⟨by dsimp only;omega,m2⟩,?_⟩;rw[M1,o3,m4];unfold kC;dsimp only
 have fU:(if decide (f=1)=true then(1:Int) else 0)=f:=by
  by_cases h1:f=1
  . rw[if_pos (decide_eq_true h1)];exact h1.symm
  . rw[if_neg (by simpa using h1)];omega
 rw[fU,m1,show(c.toNat:Int)=c from by omega];simp only[List.append_assoc]
theorem Ve{b:List UInt8}:∀(n:Nat) {a a2:Int} {N:List cy},k8 b n (a,false)=(N,(a2,false))->0<=a->N.length=n/\(∀x∈N,xF x)/\0<=a2/\b.drop a.toNat=N.flatMap kC++b.drop a2.toNat
 | 0,a,a2,N,h,ay=>by
  unfold k8 at h
  simp only[Prod.mk.injEq] at h
  obtain⟨rfl,rfl,_⟩:=h
  exact⟨rfl,by simp,ay,by simp⟩
 | n+1,a,a2,N,h,ay=>by
  unfold k8 at h
  rw[if_neg dh] at h
  simp only[Prod.mk.injEq] at h
  generalize a':l9 b (a,false)=x at *
  obtain⟨e,ib,d_⟩:=x
  dsimp only at h
  generalize cY:k8 b n (ib,d_)=y at *
  obtain⟨afq,s2⟩:=y
  dsimp only at h
  obtain⟨rfl,rfl⟩:=h
  have dM:=Vb n (s:=(ib,d_)) (by rw[cY])
  dsimp only at dM
  subst dM
  obtain⟨_,cD,dK,hs,jA⟩:=afr a'
  obtain⟨e8,dP,E3,E4⟩:=Ve n cY dK
  refine⟨by rw[List.length_cons,e8],λny he=>?_,E3,by rw[jA,E4,List.flatMap_cons,List.append_assoc]⟩
  rcases List.mem_cons.1 he with rfl|he
  . exact hs
  . exact dP ny he
theorem Vf{b:List UInt8}(h:(iz b).2=0):∃N,b=kW N/\ly N≠[]/\(iz b).1=ly N:=by
 obtain⟨c,a0,N,h1,ah,aB,bH,c_,e1,kz⟩:=afh h;refine⟨N,?_,e1,kz⟩;have kr:(b.take (b.length-4)).length=b.length-4:=(by rw[List.length_take];omega);obtain⟨_,_,dK,hs,jA,p4,o3⟩:=E2 (.inr (.inl rfl)) bH;obtain⟨m1,m2,m3,m4⟩:=Ve _ c_ aa;rw[List.drop_of_length_le (l:=b.take (b.length-4)) (i:=((b.length:Int)-4).toNat) (by rw[kr];omega),List.append_nil] at m4
 have afs:b.take (b.length-4)=hJ N:=by
  rw[<-List.take_append_drop 4 (b.take (b.length-4)),List.take_take,show min 4 (b.length-4)=4 from by omega,aB]
  have aft:(b.take (b.length-4)).drop 4=fk c 2++(b.take (b.length-4)).drop a0.toNat:=o3
  rw[aft,m4]
  unfold hJ
  rw[m1,show(c.toNat:Int)=c from by omega,List.append_assoc]
 have hd:(b.drop (b.length-4)).length=4:=(by rw[List.length_drop];omega);have fU:b=b.take (b.length-4)++b.drop (b.length-4):=(List.take_append_drop _ _).symm;have Iu:=MW (b:=b.take (b.length-4)) hd;rw[<-fU,ah] at Iu;have je:=MN (.inr (.inr rfl):xE 4) hd;rw[<-Iu] at je;unfold kW xz;rw[<-afs,je];exact fU
theorem afu{b:List UInt8}(h:(iz b).2=0):∃words,e6 words=0/\b=lx words/\(iz b).1=h' words:=by
 obtain⟨N,h1,ah,aB⟩:=Vf h;by_cases al:xC N=true/\N.length≠0/\N.length<=721/\sq N=true/\(kh N).2=true/\e6 (kh N).1=0/\h' (kh N).1=N
 . refine⟨(kh N).1,al.2.2.2.2.2.1,?_,by rw[aB,UD al]⟩;rw[<-CF al.2.2.2.2.2.1,al.2.2.2.2.2.2];exact h1
 . exact absurd (xD al) ah
abbrev kY:=Bool×List (Int×Int)
def y0(b:List UInt8)(s:Int×Bool):(Int×Int)×(Int×Bool):=(((eb b 4 s).1,(eb b 2 (eb b 4 s).2).1),(eb b 2 (eb b 4 s).2).2)
def pv(b:List UInt8):Nat->Int×Bool->List (Int×Int)×(Int×Bool)
 | 0,s=>([],s)
 | n+1,s=>if s.2=true then([],s) else((y0 b s).1::(pv b n (y0 b s).2).1,(pv b n (y0 b s).2).2)
def y1(b:List UInt8)(s:Int×Bool):kY×(Int×Bool):=
 ((decide ((eb b 1 s).1=1),(pv b (eb b 2 (eb b 1 s).2).1.toNat (eb b 2 (eb b 1 s).2).2).1),(pv b (eb b 2 (eb b 1 s).2).1.toNat (eb b 2 (eb b 1 s).2).2).2)
def k9(b:List UInt8):Nat->Int×Bool->List kY×(Int×Bool)
 | 0,s=>([],s)
 | n+1,s=>if s.2=true then([],s) else((y1 b s).1::(k9 b n (y1 b s).2).1,(k9 b n (y1 b s).2).2)
def y3(e:cd):Int×Int:=(e.rune,e.to)
def wy(x:cy):kY:=(x.1,x.2.map y3)
theorem afv{b r:List UInt8}{a:Nat}{e:cd}(h:b.drop a=l8 e++r)(he:yY e):y0 b ((a:Int),false)=(y3 e,(((a+6:Nat):Int),false)):=by
 unfold yY at he;unfold l8 at h;rw[List.append_assoc] at h;have bt:=vb (q:=false) h (.inr (.inr rfl)) aa aa;have cD:=ub h;rw[im] at cD;have dK:=vb (q:=false) cD (.inr (.inl rfl)) aa aa;unfold y0 y3;rw[bt];dsimp only;rw[dK]
theorem Vg{b:List UInt8}:∀(es:List cd) (a:Nat) (r:List UInt8),b.drop a=es.flatMap l8++r->(∀e∈es,yY e)->pv b es.length ((a:Int),false)=(es.map y3,(((a+6*es.length:Nat):Int),false))
 | [],a,r,h,_=>by simp[pv]
 | e::es,a,r,h,ag=>by
  rw[List.flatMap_cons,List.append_assoc] at h
  have bt:=afv h (ag e dh)
  have cD:=ub h
  rw[MO] at cD
  have dK:=Vg es (a+6) r cD (λe h=>ag e (by simp[h]))
  rw[List.length_cons]
  conv=>lhs;unfold pv
  rw[if_neg dh,bt]
  simp only[dK,List.map_cons]
  rw[show a+6+6*es.length=a+6*(es.length+1) from by omega]
theorem afw{b r:List UInt8}{a:Nat}{x:cy}(h:b.drop a=kC x++r)(ag:xF x):y1 b ((a:Int),false)=(wy x,(((a+uc x:Nat):Int),false)):=by
 unfold xF at ag;unfold kC at h;rw[List.append_assoc,List.append_assoc] at h;have bD:0<=(if x.1=true then(1:Int) else 0)/\(if x.1=true then(1:Int) else 0)<256:=(by split<;>omega);have bt:=vb (q:=false) h (.inl rfl) bD.1 (by have:=bD.2;omega);have cD:=ub h;rw[im] at cD;have dK:=vb (q:=false) cD (.inr (.inl rfl)) aa (by have:=ag.1;omega);have hs:=ub cD;rw[im] at hs;have jA:=Vg x.2 _ r hs ag.2;unfold y1 wy uc;rw[bt];dsimp only;rw[dK];dsimp only;rw[Int.toNat_natCast,jA];dsimp only;have fU:decide ((if x.1=true then(1:Int) else 0)=1)=x.1:=(by cases x.1<;>rfl);rw[fU,show a+1+2+6*x.2.length=a+(3+6*x.2.length) from by omega]
theorem Vh{b:List UInt8}:∀(N:List cy) (a:Nat) (r:List UInt8),b.drop a=N.flatMap kC++r->(∀x∈N,xF x)->k9 b N.length ((a:Int),false)=(N.map wy,(((a+sr N:Nat):Int),false))
 | [],a,r,h,_=>by simp[k9,sr]
 | x::N,a,r,h,ag=>by
  rw[List.flatMap_cons,List.append_assoc] at h
  have bt:=afw h (ag x dh)
  have cD:=ub h
  rw[MP] at cD
  have dK:=Vh N (a+uc x) r cD (λe h=>ag e (by simp[h]))
  rw[List.length_cons]
  conv=>lhs;unfold k9
  rw[if_neg dh,bt]
  simp only[dK,List.map_cons]
  rw[show a+uc x+sr N=a+sr (x::N) from by unfold sr;simp only[List.map_cons,List.sum_cons];omega]
def o4(g:List aj->Int×Int->List aj×Bool):List aj->List (Int×Int)->List aj×Bool
 | out,[]=>(out,true)
 | out,e::es=>if e.1>1114111 then(out,false) else if (g out e).2=false\/(g out e).1.length=out.length then((g out e).1,false) else o4 g (g out e).1 es
def iu(N:List kY):Nat->Int->Int->aj->List aj->List aj×Bool
 | 0,_,_,_,out=>(out,false)
 | f+1,n,d,a,out=>if n<0\/n>=N.length\/d>12\/out.length>60 then(out,false) else match N[n.toNat]? with
  | none=>(out,false)
  | some x=>o4 (λout e=>iu N f e.2 (d+1) (a++fC e.1) out) (if x.1=true then out++[a] else out) x.2
theorem Vi{g:List aj->Int×Int->List aj×Bool}(h:∀out e,out.length<=61->(g out e).1.length<=61):∀(es:List (Int×Int)) (out:List aj),out.length<=61->(o4 g out es).1.length<=61
 | [],out,eh=>eh
 | e::es,out,eh=>by
  unfold o4
  split
  . exact eh
  . split
    . exact h out e eh
    . exact Vi h es _ (h out e eh)
theorem Iv(N:List kY):∀(f:Nat) (n d:Int) (a:aj) (out:List aj),out.length<=61->(iu N f n d a out).1.length<=61
 | 0,_,_,_,out,h=>h
 | f+1,n,d,a,out,h=>by
  unfold iu
  split
  . exact h
  . rename_i aR
    split
    . exact h
    . refine Vi (λout e h=>Iv N f _ _ _ out h) _ _ ?_
      split
      . rw[List.length_append];simp only[List.length_cons,List.length_nil]
        have:¬ out.length>60:=λk=>aR (.inr (.inr (.inr k)))
        omega
      . exact h
theorem Vj{g:List aj->Int×Int->List aj×Bool}(h:∀out e,(∀t∈out,t.length<=1000)->∀t∈(g out e).1,t.length<=1000):∀(es:List (Int×Int)) (out:List aj),(∀t∈out,t.length<=1000)->∀t∈(o4 g out es).1,t.length<=1000
 | [],out,eh=>eh
 | e::es,out,eh=>by
  unfold o4
  split
  . exact eh
  . split
    . exact h out e eh
    . exact Vj h es _ (h out e eh)
theorem Vk(N:List kY):∀(f:Nat) (n d:Int) (a:aj) (out:List aj),(a.length:Int)<=4*d->(∀t∈out,t.length<=1000)->∀t∈(iu N f n d a out).1,t.length<=1000
 | 0,_,_,_,out,_,h=>h
 | f+1,n,d,a,out,ay,h=>by
  unfold iu
  split
  . exact h
  . rename_i aR
    split
    . exact h
    . refine Vj (λout e h=>Vk N f _ _ _ out (by have:=yW e.1;simp only[List.length_append];omega) h) _ _ ?_
      have:¬ d>12:=λk=>aR (.inr (.inr (.inl k)))
      split
      . intro t a_
        rcases List.mem_append.1 a_ with a_|a_
        . exact h t a_
        . simp only[List.mem_singleton] at a_;subst a_;omega
      . exact h
section
variable {s:c9}
theorem afx{a:aj}{d:Int}{f:Nat}{N:List kY}(MS:∀(n:Nat) (a:aj) (l:List aj) (y:List aj×List cd),s[n]?=some y->d+1+mr y.1<=12->l.length+y.1.length<=60->iu N f (n:Int) (d+1) a l=(l++y.1.map (a++·),true)):
 ∀{gs:List (Nat×List aj)} {es:List cd},c3 (λg e=>e.rune=(g.1:Int)/\∃(j:Nat) (es:List cd),e.to=(j:Int)/\s[j]?=some (g.2,es)) gs es->(∀g∈gs,kN g.1/\g.2≠[]/\d+1+mr g.2<=12)->∀l:List aj,l.length+(gs.flatMap λg=>g.2.map (en g.1++·)).length<=60 ->
  o4 (λout e=>iu N f e.2 (d+1) (a++fC e.1) out) l (es.map y3)=(l++(gs.flatMap λg=>g.2.map (en g.1++·)).map (a++·),true):=by
 intro gs es h
 induction h with
 | nil=>intro _ l _;simp[o4]
 | @cons g e gs es yy a' f' =>
  intro aV l bl;obtain⟨h1,j,rG,ah,aB⟩:=yy;obtain⟨bt,dK,cD⟩:=aV g dh;have afy:=bt;unfold kN at afy;rw[List.flatMap_cons,List.length_append,List.length_map] at bl
  have afz:iu N f (y3 e).2 (d+1) (a++fC (y3 e).1) l=(l++g.2.map ((a++en g.1)++·),true):=by
   show iu N f e.to (d+1) (a++fC e.rune) l=_
   rw[ah,h1,yH bt]
   exact MS j _ l (g.2,rG) aB cD (by simp only;omega)
  have CO:0<g.2.length:=List.length_pos_iff.2 dK;rw[List.map_cons];unfold o4;rw[if_neg (by show ¬ e.rune>_;omega),afz,if_neg (by rintro(h|h);cases h;simp only[List.length_append,List.length_map] at h;omega)];rw[f' (λfz s6=>aV fz (by simp[s6])) _ (by simp only[List.length_append,List.length_map];omega)];rw[List.flatMap_cons,List.map_append,List.map_map,List.append_assoc];congr 3
  apply List.map_congr_left;intro t _;simp
theorem afA(l':∀y∈s,oZ s y/\gv y.1):∀(f n:Nat) (a:aj) (d:Int) (l:List aj) (y:List aj×List cd),s[n]?=some y->0<=d->d+mr y.1<=12->13<=d+f->l.length+y.1.length<=60->iu ((fV s).map wy) (f+1) (n:Int) d a l=(l++y.1.map (a++·),true):=by
 intro f
 induction f with
 | zero=>intro n a d l y aR bK h1 ah _;omega
 | succ f cc =>
  intro n a d l y aR bK h1 ah bl;obtain⟨al,aV⟩:=l' y (List.mem_of_getElem? aR);have hP:=(List.getElem?_eq_some_iff.1 aR).1;have rR:((fV s).map wy).length=s.length:=(by rw[List.length_map,u5]);have fW:=HM (x:=y) aV;have ag:((fV s).map wy)[(n:Int).toNat]?=some (wy (jX y.1,y.2)):=by rw[Int.toNat_natCast,List.getElem?_map,Ir aR];rfl
  conv=>lhs;unfold iu
  rw[if_neg (by rw[rR];rintro(h|h|h|h)<;>omega),ag];rw[show wy (jX y.1,y.2)=(jX y.1,y.2.map y3) from rfl];dsimp only;have hlen:=congrArg List.length fW;rw[List.length_append] at hlen;have key:=λCL tL=>afx (s:=s) (a:=a) (d:=d) (f:=f+1) (N:=(fV s).map wy) (λn a l y aR hd bl=>cc n a (d+1) l y aR aa hd aa bl) al (λg iM=>⟨(CJ aV iM).1,(CJ aV iM).2.1,by have:=E0 aV iM;omega⟩) CL tL
  cases bD:jX y.1 with
  | true =>
   rw[bD,if_pos rfl] at fW;rw[bD,if_pos rfl] at hlen;rw[if_pos rfl,key _ (by simp only[List.length_append,List.length_cons,List.length_nil] at hlen ⊢;omega)]
   conv=>rhs;rw[fW]
   simp
  | false =>
   rw[bD,if_neg b0] at fW;rw[bD,if_neg b0] at hlen;rw[if_neg b0,key _ (by simp only[List.length_nil] at hlen ⊢;omega)]
   conv=>rhs;rw[fW]
   simp
end
def nh(b:List UInt8):Bool:=decide (¬ b.length<4/\j6 b ((b.length:Int)-4) 4=(kB (b.take (b.length-4)):Int))
def h7(b:List UInt8):List aj×Int:=
 if nh b=false then([],9) else
 if (k9 b (eb b 2 (4,false)).1.toNat (eb b 2 (4,false)).2).2.2=true then([],8) else
 if (iu (k9 b (eb b 2 (4,false)).1.toNat (eb b 2 (4,false)).2).1 14 0 0 [] []).2=false then([],8) else
 if ¬ e6 (iu (k9 b (eb b 2 (4,false)).1.toNat (eb b 2 (4,false)).2).1 14 0 0 [] []).1=0\/¬ lx (iu (k9 b (eb b 2 (4,false)).1.toNat (eb b 2 (4,false)).2).1 14 0 0 [] []).1=b then([],8) else
 ((iu (k9 b (eb b 2 (4,false)).1.toNat (eb b 2 (4,false)).2).1 14 0 0 [] []).1,0)
theorem Vl{b:List UInt8}(h:nh b=false):h7 b=([],9):=by unfold h7;rw[if_pos h]
section
variable {b:List UInt8} {c a0 a:Int} {q0 q ok:Bool} {N:List kY} {l:List aj}
theorem M3(h:nh b=true)(h1:(c,(a0,q0))=eb b 2 (4,false))(ah:k9 b c.toNat (a0,q0)=(N,(a,q)))(aB:q=true):h7 b=([],8):=by
 unfold h7;rw[if_neg (by simp[h]),<-h1];simp only[ah];rw[if_pos aB]
theorem Vm(h:nh b=true)(h1:(c,(a0,q0))=eb b 2 (4,false))(ah:k9 b c.toNat (a0,q0)=(N,(a,q)))(aB:q=false)(bH:iu N 14 0 0 [] []=(l,ok))(c_:ok=false):h7 b=([],8):=by
 unfold h7;rw[if_neg (by simp[h]),<-h1];simp only[ah];rw[if_neg (by simp[aB]),if_pos (by rw[bH];exact c_)]
theorem M4(h:nh b=true)(h1:(c,(a0,q0))=eb b 2 (4,false))(ah:k9 b c.toNat (a0,q0)=(N,(a,q)))(aB:q=false)(bH:iu N 14 0 0 [] []=(l,ok))(c_:ok=true)(e1:¬ e6 l=0\/¬ lx l=b):h7 b=([],8):=by
 unfold h7;rw[if_neg (by simp[h]),<-h1];simp only[ah,bH];rw[if_neg (by simp[aB]),if_neg (by simp[c_]),if_pos e1]
theorem M5(h:nh b=true)(h1:(c,(a0,q0))=eb b 2 (4,false))(ah:k9 b c.toNat (a0,q0)=(N,(a,q)))(aB:q=false)(bH:iu N 14 0 0 [] []=(l,ok))(c_:ok=true)(e1:¬ (¬ e6 l=0\/¬ lx l=b)):h7 b=(l,0):=by
 unfold h7;rw[if_neg (by simp[h]),<-h1];simp only[ah,bH];rw[if_neg (by simp[aB]),if_neg (by simp[c_]),if_neg e1]
end
theorem Vn(b:List UInt8):h7 b=([],9)/\nh b=false\/(h7 b=([],8)/\nh b=true)\/(nh b=true/\(h7 b).2=0/\e6 (h7 b).1=0/\lx (h7 b).1=b):=by
 cases eh:nh b with
 | false=>exact .inl ⟨Vl eh,rfl⟩
 | true =>
  right;obtain⟨⟨c,a0,q0⟩,h1⟩:∃x,x=eb b 2 (4,false):=⟨_,rfl⟩;obtain⟨⟨N,a,q⟩,ah⟩:∃x,k9 b c.toNat (a0,q0)=x:=⟨_,rfl⟩
  cases aB:q with
  | true=>exact .inl ⟨M3 eh h1 ah aB,rfl⟩
  | false =>
   obtain⟨⟨l,ok⟩,bH⟩:∃x,iu N 14 0 0 [] []=x:=⟨_,rfl⟩
   cases c_:ok with
   | false=>exact .inl ⟨Vm eh h1 ah aB bH c_,rfl⟩
   | true =>
    by_cases e1:¬ e6 l=0\/¬ lx l=b
    . exact .inl ⟨M4 eh h1 ah aB bH c_ e1,rfl⟩
    . rw[M5 eh h1 ah aB bH c_ e1];exact .inr ⟨rfl,rfl,Classical.byContradiction λk=>e1 (.inl k),Classical.byContradiction λk=>e1 (.inr k)⟩
theorem M6{b:List UInt8}(h:nh b=false):iz b=([],9):=by
 unfold nh at h;have h:=of_decide_eq_false h;by_cases h1:b.length<4
 . exact Ip h1
 . exact CI h1 λk=>h ⟨h1,k⟩
theorem Vo{b:List UInt8}(h:nh b=true):(iz b).2=0\/iz b=([],8):=by
 unfold nh at h;obtain⟨h1,ah⟩:=of_decide_eq_true h;unfold iz;rw[if_neg h1,if_neg (λk=>k ah)];split
 . exact .inr rfl
 split
 . exact .inr rfl
 split
 . exact .inr rfl
 . exact .inl rfl
theorem Vp{words:List aj}(h:e6 words=0):h7 (lx words)=(words,0):=by
 have AH:=U6 h;have bl:=(CE h).2;have Vq:=MT h
 have afB:nh (lx words)=true:=by
  cases eh:nh (lx words) with
  | true=>rfl
  | false=>rw[M6 eh] at Vq;simp at Vq
 have he:lx words=hJ (h' words)++fk (kB (hJ (h' words))) 4:=(by rw[<-CF h];rfl);have EY:(lx words).drop 4=fk (h' words).length 2++((h' words).flatMap kC++fk (kB (hJ (h' words))) 4):=(by rw[he];unfold hJ;simp);have bH:=vb (q:=false) EY (.inr (.inl rfl)) aa aa;have EZ:=ub EY;rw[im] at EZ;have c_:=Vh _ 6 _ EZ AH
 have hw:iu ((h' words).map wy) 14 0 0 [] []=(words,true):=by
  by_cases hw:words=[]
  . subst hw
    rw[HX rfl];decide
  . have jI:=s8 h
    have bW:=Cm jI.2 jI.1 hw
    have hq:=tZ h
    unfold o1 at hq
    rw[if_neg hw] at hq
    obtain⟨te,bK⟩:=bW.root
    have ae_:=UW jI.2
    have:=afA (s:=s5 words) (λy aE=>⟨(bW.node y aE).we,(bW.node y aE).fQ⟩) 13 0 [] 0 [] (words,te) bK aa (by simp only;omega) aa (by have:=(wc h).1;simp only[List.length_nil];omega)
    rw[hq]
    simpa using this
 exact M5 afB bH.symm (by rw[Int.toNat_natCast];exact c_) rfl hw rfl (by rintro(k|k);exact k h;exact k rfl)
theorem CP(b:List UInt8):(iz b).2=(h7 b).2/\((iz b).2=0->e6 (h7 b).1=0/\(iz b).1=h' (h7 b).1):=by
 rcases Vn b with ⟨h1,ah⟩|⟨h1,ah⟩|⟨h1,ah,aB,bH⟩
 . rw[M6 ah,h1];exact⟨rfl,λh=>by cases h⟩
 . rcases Vo ah with h|h
   . obtain⟨words,bt,cD,dK⟩:=afu h;rw[cD,Vp bt] at h1;simp at h1
   . rw[h,h1];exact⟨rfl,λh=>by cases h⟩
 . have k:=MT aB;rw[bH] at k;rw[k,ah];exact⟨rfl,λ_=>⟨aB,rfl⟩⟩
end Go.ak
namespace Go.ak
open Go.aG
theorem afC{l:List aj}(aT:oX l)(hw:∀w∈l,word w=true)(bl:l.length<=60):e6 l=0:=by
 unfold e6;rw[if_neg aa,if_pos (List.all_eq_true.2 hw),if_pos (SK aT)]
end Go.ak
namespace Go.ak
open Go.aG
theorem afD{cuts:List Key}{words:List aj}(h:e6 words=0)(shard:Int):e6 (rF cuts words shard)=0:=by
 obtain⟨h1,ah,aB⟩:=wc h;refine afC (List.Pairwise.filter _ aB) (λw hw=>ah w (List.mem_filter.1 hw).1) ?_;have:=List.length_filter_le (tQ cuts shard) words;unfold rF;omega
theorem afE{c:cG}(h:may c=true):e6 c.words=0:=by
 unfold may at h;simp only[Bool.and_eq_true,beq_iff_eq] at h;exact h.1.1
theorem afF{c:cG}(s:Int):(tR c s).length<=c.words.length:=List.length_filter_le _ _
theorem M7{c:cG}(h:may c=true)(s:Int):e6 (tR c s)=0:=afD (afE h) s
theorem Vr{c:cG}(h:may c=true){s:Int}(bK:0<=s)(h1:s<(jf c:Int)):gY c s=lx (tR c s)/\wv c s=0:=by
 obtain⟨ah,aB⟩:=EU (c:=c) bK h1;exact⟨ah.symm,aB.symm.trans (M7 h s)⟩
end Go.ak
namespace Go.aG
open Go
section
variable {R kg:Nat->Prop} {w:World}
theorem M8{α:Type}:∀(A C B:List α),(List.range' C.length A.length).filterMap (λi=>(C++A++B)[i]?)=A
 | [],C,B=>rfl
 | a::A,C,B=>by
  have:=M8 A (C++[a]) B
  rw[List.length_cons,List.range'_succ,List.filterMap_cons]
  have h1:(C++a::A++B)[C.length]?=some a:=by simp
  rw[h1]
  simp only
  rw[List.length_append,List.length_cons,List.length_nil] at this
  rw[show C++a::A++B=C++[a]++A++B from by simp,this]
theorem Sep.AQ{A B:List (dr R)}(h:Sep (A++B) kg w):Sep (B++A) kg w:=by
 have:=h.yO (List.range' A.length B.length++List.range' 0 A.length) (by
  rw[List.all_eq_true]
  intro i ar
  rw[List.mem_append,List.mem_range'_1,List.mem_range'_1] at ar
  rw[List.length_append]
  exact decide_eq_true aa) (by
  rw[List.nodup_append]
  refine⟨List.nodup_range',List.nodup_range',λa ay b ab=>?_⟩
  rw[List.mem_range'_1] at ay ab
  omega)
 rw[List.filterMap_append] at this;have h1:=M8 B A [];have ah:=M8 A [] B;rw[List.append_nil] at h1;rw[List.length_nil,List.nil_append] at ah;rw[h1,ah] at this;exact this
theorem Sep.vY{A B:List (dr R)}{x:dr R}(h:Sep (A++x::B) kg w):Sep [bh A,x,bh B] kg w:=by
 have h1:Sep ((A++[x])++B) kg w:=(by simpa using h);have ah:Sep (A++[x,bh B]) kg w:=(by simpa using h1.close);have aB:=(ah.AQ).close (L1:=[x,bh B]) (L2:=A);exact aB.yO [2,0,1] rfl b0
theorem Sep.afG{A B:List (dr R)}{x:dr R}(h:Sep [bh A,x,bh B] kg w):Sep (A++x::B) kg w:=by
 have h1:Sep ([x,bh B]++[bh A]) kg w:=h.yO [1,2,0] rfl b0;have ah:=(h1.open).AQ;have aB:Sep ((A++[x])++[bh B]) kg w:=(by simpa using ah);have bH:=aB.open;simpa using bH
def nJ(b:Nat):Value:=ptr b 0
structure kt where
 shard:Int
 ptr:Nat
 fQ:List UInt8
 now:List UInt8
def hz(eI u8:TypeId)(x:kt):dr R:=nF λvs:Value×Value=>bh [aw x.ptr [vs.1,vs.2] eI,aP eB u8 1 vs.1 x.fQ,aP eB u8 1 vs.2 x.now]
theorem afH{eI u8:TypeId}{D:List kt}{k:Nat}{x:kt}(ag:D[k]?=some x):∀F:Nat->Prop,(bh (R:=R) (D.map (hz eI u8))).p F w->(bh (R:=R) [bh ((D.take k).map (hz eI u8)),hz eI u8 x,bh ((D.drop (k+1)).map (hz eI u8))]).p F w:=by
 intro F h
 have e:D=D.take k++x::D.drop (k+1):=by
  have:=(List.getElem?_eq_some_iff.1 ag).2
  rw[<-this];simp
 rw[e] at h;rw[List.map_append,List.map_cons] at h;exact Sep.vY h
theorem afI{eI u8:TypeId}{D:List kt}{k:Nat}{x y:kt}(ag:D[k]?=some x):∀F:Nat->Prop,(bh (R:=R) [bh ((D.take k).map (hz eI u8)),hz eI u8 y,bh ((D.drop (k+1)).map (hz eI u8))]).p F w->(bh (R:=R) ((D.set k y).map (hz eI u8))).p F w:=by
 intro F h;have hk:=(List.getElem?_eq_some_iff.1 ag).1;have e:D.set k y=D.take k++y::D.drop (k+1):=(by rw[List.set_eq_take_append_cons_drop,if_pos hk]);rw[e,List.map_append,List.map_cons];exact Sep.afG h
def afJ(ji eI u8:TypeId)(di:Nat)(life:Int)(D:List kt):dr R:=nF λe9:Nat=>bh [aw di [.map (some e9),.int .i64 life] ji,lv fD nJ e9 (D.map λx=>(x.shard,x.ptr)),bh (D.map (hz eI u8))]
end
end Go.aG
namespace Go.ak
open Go.aG
abbrev cV:=Int×List UInt8×List UInt8
def jZ(D:List cV)(s:Int):Option cV:=D.find? λx=>decide (x.1=s)
def pw(D:List cV)(s:Int):Int:=match jZ D s with|none=>4|some _=>0
def iN(D:List cV)(s:Int):List UInt8:=match jZ D s with|none=>[]|some x=>x.2.2
def xG(D:List cV)(s:Int):Bool:=match jZ D s with|none=>false|some x=>decide (x.2.2≠x.2.1)
def od(D:List cV)(s:Int)(f:List UInt8->List UInt8):List cV:=D.map λx=>if x.1=s then(x.1,x.2.1,f x.2.1) else x
def xH(D:List cV)(s at_ x:Int):List cV:=od D s λb=>oB b at_ x
def xI(D:List cV)(s:Int):List cV:=od D s id
def o5(D:List cV):Prop:=(D.map (·.1)).Nodup/\∀x∈D,1<=x.2.1.length/\x.2.1.length<=4000000/\x.2.2.length=x.2.1.length
theorem afK(D:List cV)(s:Int)(f:List UInt8->List UInt8):(od D s f).map (·.1)=D.map (·.1):=by
 unfold od;rw[List.map_map];apply List.map_congr_left;intro x _;simp only[Function.comp];split<;>rfl
theorem o5.put{D:List cV}(h:o5 D)(s:Int){f:List UInt8->List UInt8}(bD:∀b,(f b).length=b.length):o5 (od D s f):=by
 refine⟨by rw[afK];exact h.1,λx ag=>?_⟩;unfold od at ag;obtain⟨y,aE,rfl⟩:=List.mem_map.1 ag;have:=h.2 y aE;split
 . exact⟨this.1,this.2.1,bD _⟩
 . exact this
theorem Vs(D:List cV)(s t:Int)(f:List UInt8->List UInt8):jZ (od D s f) t=(jZ D t).map λx=>if x.1=s then(x.1,x.2.1,f x.2.1) else x:=by
 unfold jZ od;rw[List.find?_map];congr 2
 funext x;simp only[Function.comp];split<;>rfl
theorem AR{D:List cV}{s:Int}{x:cV}(h:jZ D s=some x):x.1=s/\x∈D:=by
 unfold jZ at h;have ah:=List.find?_some h;exact⟨of_decide_eq_true ah,List.mem_of_find?_eq_some h⟩
theorem afL{D:List cV}{s:Int}{x:cV}(h:jZ D s=some x):∃k,D[k]?=some x/\x.1=s/\∀(j:Nat) (y:cV),j<k->D[j]?=some y->y.1≠s:=by
 unfold jZ at h
 induction D with
 | nil=>cases h
 | cons y D cc =>
  rw[List.find?_cons] at h;by_cases aE:y.1=s
  . rw[decide_eq_true aE] at h;simp only[Option.some.injEq] at h;subst h;exact⟨0,rfl,aE,λj y bo=>absurd bo (Nat.not_lt_zero _)⟩
  . rw[decide_eq_false aE] at h;obtain⟨k,h1,ah,aB⟩:=cc h;refine⟨k+1,h1,ah,λj z bo cO=>?_⟩
    cases j with
    | zero=>simp only[List.getElem?_cons_zero,Option.some.injEq] at cO;subst cO;exact aE
    | succ j=>exact aB j z aa (by simpa using cO)
theorem M9{D:List cV}{s:Int}{x:cV}{k:Nat}{f:List UInt8->List UInt8}(aR:(D.map (·.1)).Nodup)(ag:D[k]?=some x)(aT:x.1=s):od D s f=D.set k (x.1,x.2.1,f x.2.1):=by
 unfold od;apply List.ext_getElem?;intro j;rw[List.getElem?_map,List.getElem?_set];have hk:=(List.getElem?_eq_some_iff.1 ag).1;by_cases bo:k=j
 . subst bo;rw[ag,if_pos rfl,if_pos hk];simp[aT]
 . rw[if_neg bo]
   cases aE:D[j]? with
   | none=>rfl
   | some y =>
    simp only[Option.map_some,Option.some.injEq];rw[if_neg];intro e;have h1:(D.map (·.1))[k]?=some s:=(by rw[List.getElem?_map,ag,<-aT];rfl);have ah:(D.map (·.1))[j]?=some s:=(by rw[List.getElem?_map,aE,<-e];rfl);exact bo ((List.getElem?_inj (by rw[List.length_map];exact hk) aR).1 (h1.trans ah.symm))
theorem afM{D:List cV}{s:Int}{f:List UInt8->List UInt8}(h:jZ D s=none):od D s f=D:=by
 unfold od
 conv=>rhs;rw[<-List.map_id D]
 apply List.map_congr_left;intro x ag;unfold jZ at h;have:=List.find?_eq_none.1 h x ag;rw[if_neg (by simpa using this)];rfl
def nK(x:kt):cV:=(x.shard,x.fQ,x.now)
theorem M_(D:List kt)(s:Int):gw (D.map λx=>(x.shard,x.ptr)) s=(D.find? λx=>decide (x.shard=s)).map (·.ptr):=by
 unfold gw;rw[List.find?_map,Option.map_map];rfl
theorem Vt(D:List kt)(s:Int):jZ (D.map nK) s=(D.find? λx=>decide (x.shard=s)).map nK:=by
 unfold jZ;rw[List.find?_map];rfl
theorem afN{D:List kt}{s:Int}{x:cV}(h:jZ (D.map nK) s=some x):∃(k:Nat) (y:kt),D[k]?=some y/\nK y=x/\y.shard=s/\gw (D.map λx=>(x.shard,x.ptr)) s=some y.ptr:=by
 rw[Vt] at h
 cases bD:D.find? λx=>decide (x.shard=s) with
 | none=>rw[bD] at h;cases h
 | some y =>
  rw[bD] at h;obtain⟨k,hk⟩:=List.mem_iff_getElem?.1 (List.mem_of_find?_eq_some bD);have ah:=List.find?_some bD;exact⟨k,y,hk,by simpa using h,of_decide_eq_true ah,by rw[M_,bD];rfl⟩
theorem afO{D:List kt}{s:Int}(h:jZ (D.map nK) s=none):gw (D.map λx=>(x.shard,x.ptr)) s=none:=by
 rw[Vt] at h
 cases bD:D.find? λx=>decide (x.shard=s) with
 | none=>rw[M_,bD];rfl
 | some y=>rw[bD] at h;cases h
theorem afP{D:List kt}{k:Nat}{y:kt}{s:Int}{f:List UInt8->List UInt8}(aR:o5 (D.map nK))(hk:D[k]?=some y)(aT:y.shard=s):(D.set k { y with now:=f y.fQ }).map nK=od (D.map nK) s f:=by
 rw[M9 (x:=nK y) aR.1 (by rw[List.getElem?_map,hk];rfl) aT,List.map_set];rfl
theorem afQ{D:List kt}{k:Nat}{y:kt}{b:List UInt8}(hk:D[k]?=some y):((D.set k { y with now:=b }).map λx=>(x.shard,x.ptr))=D.map λx=>(x.shard,x.ptr):=by
 rw[List.map_set];apply List.ext_getElem?;intro j;rw[List.getElem?_set];split
 . rename_i h;subst h;split
   . rw[List.getElem?_map,hk];rfl
   . rw[List.getElem?_eq_none aa]
 . rfl
def rS(c:cG)(w:Int):Bool:=may c && (decide (1<=w) && decide (w<=c.workers))
theorem Vu{c:cG}{w:Int}(h1:may c=true)(ah:1<=w)(aB:w<=c.workers):rS c w=true:=by unfold rS;rw[h1,decide_eq_true ah,decide_eq_true aB];rfl
theorem CQ{c:cG}{w:Int}(h:may c=false\/w<1\/c.workers<w):rS c w=false:=by
 unfold rS;rcases h with h|h|h
 . rw[h];rfl
 . rw[decide_eq_false (by omega:¬ 1<=w)];simp
 . rw[decide_eq_false (by omega:¬ w<=c.workers)];simp
theorem Iw{c:cG}{w:Int}(h:rS c w=true):may c=true/\1<=w/\w<=c.workers:=by
 unfold rS at h;simp only[Bool.and_eq_true,decide_eq_true_eq] at h;exact⟨h.1,h.2.1,h.2.2⟩
def ni(c:cG)(w:Int):List cV:=(cn c w).map λs=>(s,gY c s,gY c s)
def q7(c:cG)(s:Int):cV:=(s,gY c s,gY c s)
theorem Ix(c:cG)(w:Int):ni c w=(cn c w).map (q7 c):=rfl
theorem Iy(c:cG)(w:Int):(cn c w).Nodup:=by
 unfold cn;refine List.Pairwise.map _ (λa b h=>?_) ((List.nodup_range (n:=jf c)).filter _);omega
theorem Vv{c:cG}{l:List Int}{k:Nat}{x:Int}(ag:l[k]?=some x):(l.take k).map (q7 c)++[(x,gY c x,gY c x)]=(l.take (k+1)).map (q7 c):=by
 rw[List.take_add_one,ag,List.map_append];rfl
theorem afR{c:cG}{l:List Int}(aR:l.Nodup){k:Nat}{x:Int}(ag:l[k]?=some x){D:List kt}(j0:D.map nK=(l.take k).map (q7 c)):∀y∈D,y.shard≠x:=by
 intro y aE e;have h1:nK y∈(l.take k).map (q7 c):=j0▸List.mem_map_of_mem aE;obtain⟨z,cO,ec⟩:=List.mem_map.1 h1;have Iz:z=x:=(congrArg Prod.fst ec).trans e;obtain⟨j,bo⟩:=List.mem_iff_getElem?.1 cO;rw[List.getElem?_take] at bo;split at bo
 . rename_i n2;rw[Iz] at bo;have:=(List.getElem?_inj (List.getElem?_eq_some_iff.1 bo).1 aR).1 (bo.trans ag.symm);omega
 . cases bo
theorem CR{c:cG}{w s:Int}(h:s∈cn c w):0<=s/\s<(jf c:Int):=by
 unfold cn at h;obtain⟨k,hk,rfl⟩:=List.mem_map.1 h;have:=List.mem_range.1 (List.mem_filter.1 hk).1;omega
theorem IA{c:cG}(h:may c=true)(w:Int):o5 (ni c w):=by
 refine⟨?_,λx ag=>?_⟩
 . have:(ni c w).map (·.1)=cn c w:=by
    rw[Ix,List.map_map]
    conv=>rhs;rw[<-List.map_id (cn c w)]
    rfl
   rw[this];exact Iy c w
 . rw[Ix] at ag;obtain⟨s,aT,rfl⟩:=List.mem_map.1 ag;obtain⟨h1,ah⟩:=CR aT;obtain⟨aB,_⟩:=Vr h h1 ah;have bH:=Vc (M7 h s);have c_:=Uo c s;unfold q7;dsimp only;rw[aB] at c_ ⊢;exact⟨by omega,by omega,rfl⟩
theorem Vw{c:cG}{w s:Int}(h:s∈cn c w):jZ (ni c w) s=some (s,gY c s,gY c s):=by
 rw[Ix];unfold jZ;rw[List.find?_map]
 have:(cn c w).find? ((λx:cV=>decide (x.1=s)) ∘ q7 c)=some s:=by
  cases bD:(cn c w).find? ((λx:cV=>decide (x.1=s)) ∘ q7 c) with
  | none=>exact absurd (decide_eq_true rfl) (List.find?_eq_none.1 bD s h)
  | some y =>
   have ah:=List.find?_some bD
   have aB:y=s:=of_decide_eq_true ah
   rw[aB]
 rw[this];rfl
theorem afS{c:cG}{w s:Int}(h:s∉cn c w):jZ (ni c w) s=none:=by
 cases aV:jZ (ni c w) s with
 | none=>rfl
 | some x =>
  obtain⟨h1,ah⟩:=AR aV;rw[Ix] at ah;obtain⟨z,cO,rfl⟩:=List.mem_map.1 ah;exact absurd (h1▸cO:s∈cn c w) h
theorem Vx{D:List cV}{s:Int}{x:cV}(h:jZ D s=some x):pw D s=0/\iN D s=x.2.2/\xG D s=decide (x.2.2≠x.2.1):=by
 unfold pw iN xG;rw[h];exact⟨rfl,rfl,rfl⟩
theorem afT{D:List cV}{s:Int}(h:jZ D s=none):pw D s=4/\iN D s=[]/\xG D s=false:=by
 unfold pw iN xG;rw[h];exact⟨rfl,rfl,rfl⟩
theorem afU{c:cG}{w s:Int}(h:s∈cn c w):pw (ni c w) s=0/\iN (ni c w) s=gY c s/\xG (ni c w) s=false:=by
 obtain⟨h1,ah,aB⟩:=Vx (Vw h);exact⟨h1,ah,by rw[aB];simp⟩
def nj:cG:=⟨[[97],[97,98,99],[98]],[⟨2,[]⟩],2,1,1,1,1,1,1,1,0,8⟩
theorem Vy:rS nj 1=true:=by decide +kernel
theorem afV:cn nj 1=[0]:=by decide +kernel
end Go.ak
namespace Go.aG
open Go Go.ak
structure iO where
 shard:Int
 r:cL
 b:cL
def jj(x:iO):List Value:=[.int .i64 x.shard,x.r.val,x.b.val]
theorem AS(x:iO):(jj x).length=3:=rfl
theorem afW(x:iO):(jj x).all (·.oneCell')=true:=rfl
def px(w:World)(F:Nat->Prop)(rows:List iO)(K:List cV):Prop:=c3 (λr e=>r.shard=e.1/\aq eB w F r.r.val e.2.1/\aq eB w F r.b.val e.2.2) rows K
theorem px.keep{M:Nat->Prop}{w ao:World}{F:Nat->Prop}{rows:List iO}{K:List cV}(h:px w F rows K)(hm:Mod M w ao)(bs:∀b,F b->¬ M b):px ao F rows K:=
 c3.imp (λ_ _ k=>⟨k.1,k.2.1.keep hm bs,k.2.2.keep hm bs⟩) h
theorem px.mono{w:World}{F F':Nat->Prop}{rows:List iO}{K:List cV}(h:px w F rows K)(bs:∀b,F b->F' b):px w F' rows K:=
 c3.imp (λ_ _ k=>⟨k.1,k.2.1.mono bs,k.2.2.mono bs⟩) h
theorem px.at{w:World}{F:Nat->Prop}{rows:List iO}{K:List cV}(h:px w F rows K){i:Nat}{r:iO}(a':rows[i]?=some r):∃e,K[i]?=some e/\r.shard=e.1/\aq eB w F r.r.val e.2.1/\aq eB w F r.b.val e.2.2:=by
 obtain⟨h1,ah⟩:=c3.get h;have ar:=(List.getElem?_eq_some_iff.1 a').1;exact⟨_,List.getElem?_eq_getElem aa,ah i r _ a' (List.getElem?_eq_getElem aa)⟩
theorem c3.set{α β:Type}{Q:α->β->Prop}:∀{l:List α} {m:List β} (k:Nat) {a:α} {b:β},c3 Q l m->Q a b->c3 Q (l.set k a) (m.set k b)
 | _,_,_,_,_,.nil,_=>.nil
 | _,_,0,_,_,.cons _ h,mI=>.cons mI h
 | _,_,k+1,_,_,.cons h1 h,mI=>.cons h1 (c3.set k h mI)
section
variable {R F:Nat->Prop} {w:World} {rows:List iO} {K:List cV}
def iP{R:Nat->Prop}(rows:List iO)(K:List cV):dr R:=⟨λF w=>px w F rows K,λh hm bs _=>h.keep hm bs⟩
theorem afX{e:TypeId}{x:cL}{v:Value}{s:Int}{vc:List UInt8}(cK:v=x.val)(h:(bh (R:=R) [iP rows K,aP eB e 1 v vc]).p F w):(iP (R:=R) (rows++[⟨s,x,x⟩]) (K++[(s,vc,vc)])).p F w:=by
 obtain⟨fs,bz,h1,ah,aB,bH⟩:=u9 h;exact c3.app (px.mono h1 aB) (.cons ⟨rfl,cK▸(td ah).mono bH,cK▸(td ah).mono bH⟩ .nil)
theorem afY{e:TypeId}{x:cL}{v:Value}{r:iO}{k:Nat}{vc:List UInt8}(cK:v=x.val)(a':rows[k]?=some r){y:cV}(aE:K[k]?=some y)(h:(bh (R:=R) [iP rows K,aP eB e 1 v vc]).p F w):(iP (R:=R) (rows.set k { r with b:=x }) (K.set k (y.1,y.2.1,vc))).p F w:=by
 obtain⟨fs,bz,h1,ah,aB,bH⟩:=u9 h;obtain⟨ny,he,bt,cD,dK⟩:=px.at h1 a';obtain rfl:ny=y:=Option.some.inj (he.symm.trans aE);exact c3.set k (px.mono h1 aB) ⟨bt,cD.mono aB,cK▸(td ah).mono bH⟩
theorem afZ{r:iO}{k:Nat}(a':rows[k]?=some r){y:cV}(aE:K[k]?=some y)(h:(iP (R:=R) rows K).p F w):(iP (R:=R) (rows.set k { r with b:=r.r }) (K.set k (y.1,y.2.1,y.2.1))).p F w:=by
 obtain⟨ny,he,bt,cD,dK⟩:=px.at h a';obtain rfl:ny=y:=Option.some.inj (he.symm.trans aE);exact c3.set k h ⟨bt,cD,cD⟩
def kj{R:Nat->Prop}(CS eI:TypeId)(c4:Nat)(py:Int)(K:List cV):dr R:=nF λx:Value×List iO=>bh [aw c4 [x.1,.int .i64 py] CS,aP jj eI 3 x.1 x.2,iP x.2 K]
def hT{R:Nat->Prop}(ji eI u8:TypeId)(di:Nat)(life:Int)(K:List cV):dr R:=nF λD:List kt=>ps (D.map nK=K) (afJ ji eI u8 di life D)
end
end Go.aG
namespace Go.aG
open Go Go.ak
section
variable {R F:Nat->Prop} {w:World}
theorem af0{eI u8:TypeId}{D:List kt}(h:(bh (R:=R) (D.map (hz eI u8))).p F w){x:kt}(ag:x∈D):∃oC gH,ds w x.ptr [oC,gH] eI/\aq eB w F oC x.fQ/\aq eB w F gH x.now:=by
 obtain⟨k,hk⟩:=List.mem_iff_getElem?.1 ag;obtain⟨fi,h1,ah,_⟩:=h;obtain⟨⟨oC,gH⟩,ab⟩:=h1 k (hz eI u8 x) (by rw[List.getElem?_map,hk];rfl);obtain⟨Tk,g1,g2,_⟩:=ab;have d_:=g1 0 _ rfl;have q2:=g1 1 _ rfl;have fE:=g1 2 _ rfl;refine⟨oC,gH,d_.1,(td q2).mono λb ab=>?_,(td fE).mono λb ab=>?_⟩
 . exact(ah k b (g2 1 b ab).1.1).1.1
 . exact(ah k b (g2 2 b ab).1.1).1.1
theorem IB{ji eI u8:TypeId}{di:Nat}{life:Int}{K:List cV}(h:(hT (R:=R) ji eI u8 di life K).p F w):∃(D:List kt) (e9:Nat),D.map nK=K/\ds w di [.map (some e9),.int .i64 life] ji/\nf fD nJ w e9 (D.map λx=>(x.shard,x.ptr))/\∀x∈D,∃oC gH,ds w x.ptr [oC,gH] eI/\aq eB w F oC x.fQ/\aq eB w F gH x.now:=by
 obtain⟨D,j0,e9,fi,h1,ah,_⟩:=h;have d_:=h1 0 _ rfl;have q2:=h1 1 _ rfl;have fE:=h1 2 _ rfl;refine⟨D,e9,j0,d_.1,q2.1,λx ag=>?_⟩;obtain⟨oC,gH,bt,cD,dK⟩:=af0 fE ag;exact⟨oC,gH,bt,cD.mono λb ab=>(ah 2 b ab).1.1,dK.mono λb ab=>(ah 2 b ab).1.1⟩
theorem Vz{D:List kt}{K:List cV}{s:Int}{x:cV}(j0:D.map nK=K)(h:jZ K s=some x):∃(k:Nat) (y:kt),D[k]?=some y/\nK y=x/\y.shard=s/\gw (D.map λx=>(x.shard,x.ptr)) s=some y.ptr:=by
 subst j0;exact afN h
theorem M'{D:List kt}{K:List cV}{s:Int}(j0:D.map nK=K)(h:jZ K s=none):gw (D.map λx=>(x.shard,x.ptr)) s=none:=by
 subst j0;exact afO h
theorem ud{K:List cV}{s:Int}(h:jZ K s=none):pw K s=4/\iN K s=[]/\xG K s=false/\(∀f,od K s f=K):=by
 unfold pw iN xG;rw[h];exact⟨rfl,rfl,rfl,λf=>afM h⟩
theorem y4{K:List cV}{s:Int}{x:cV}(h:jZ K s=some x):pw K s=0/\iN K s=x.2.2/\xG K s=decide (x.2.2≠x.2.1):=by
 unfold pw iN xG;rw[h];exact⟨rfl,rfl,rfl⟩
theorem VA{ji eI u8:TypeId}{di:Nat}{life:Int}{K:List cV}{s:Int}{x:cV}(h:(hT (R:=R) ji eI u8 di life K).p F w)(ag:jZ K s=some x):∃(D:List kt) (k:Nat) (y:kt) (e9:Nat),D.map nK=K/\D[k]?=some y/\nK y=x/\y.shard=s/\gw (D.map λx=>(x.shard,x.ptr)) s=some y.ptr /\
 (bh (R:=R) [aw di [.map (some e9),.int .i64 life] ji,lv fD nJ e9 (D.map λx=>(x.shard,x.ptr)),bh ((D.take k).map (hz eI u8)),hz eI u8 y,bh ((D.drop (k+1)).map (hz eI u8))]).p F w:=by
 obtain⟨D,j0,e9,wz⟩:=h;obtain⟨k,y,h1,ah,aB,bH⟩:=Vz j0 ag;refine⟨D,k,y,e9,j0,h1,ah,aB,bH,?_⟩;obtain⟨fi,g1,g2,g3⟩:=wz;have fE:=afH (R:=R) (eI:=eI) (u8:=u8) h1 (fi 2) (g1 2 _ rfl)
 have:Sep (R:=R) [aw di [.map (some e9),.int .i64 life] ji,lv fD nJ e9 (D.map λx=>(x.shard,x.ptr)),bh [bh ((D.take k).map (hz eI u8)),hz eI u8 y,bh ((D.drop (k+1)).map (hz eI u8))]] F w:=by
  refine⟨fi,λi A bf=>?_,g2,g3⟩
  match i,bf with
  | 0,bf=>exact g1 0 A bf
  | 1,bf=>exact g1 1 A bf
  | 2,bf =>
   simp only[List.getElem?_cons_succ,List.getElem?_cons_zero,Option.some.injEq] at bf
   subst bf
   exact fE
  | n+3,bf=>simp at bf
 exact Sep.open (L1:=[_,_]) this
theorem VB{ji eI u8:TypeId}{di:Nat}{life:Int}{K:List cV}{D:List kt}{k:Nat}{y:kt}{e9:Nat}{s:Int}{f:List UInt8->List UInt8}(j0:D.map nK=K)(eU:o5 K)(hk:D[k]?=some y)(CT:y.shard=s)
 (h:(bh (R:=R) [aw di [.map (some e9),.int .i64 life] ji,lv fD nJ e9 (D.map λx=>(x.shard,x.ptr)),bh ((D.take k).map (hz eI u8)),hz eI u8 { y with now:=f y.fQ },bh ((D.drop (k+1)).map (hz eI u8))]).p F w):(hT (R:=R) ji eI u8 di life (od K s f)).p F w:=by
 subst j0;subst CT;refine⟨D.set k { y with now:=f y.fQ },afP eU hk rfl,e9,?_⟩;have ah:Sep ([aw (R:=R) di [.map (some e9),.int .i64 life] ji,lv fD nJ e9 (D.map λx=>(x.shard,x.ptr))]++[bh ((D.take k).map (hz eI u8)),hz eI u8 { y with now:=f y.fQ },bh ((D.drop (k+1)).map (hz eI u8))]) F w:=h;have aB:=ah.close;obtain⟨fi,g1,g2,g3⟩:=aB;refine⟨fi,λi A bf=>?_,g2,g3⟩
 match i,bf with
 | 0,bf=>exact g1 0 A bf
 | 1,bf =>
  rw[afQ hk] at bf;exact g1 1 A bf
 | 2,bf =>
  simp only[List.getElem?_cons_succ,List.getElem?_cons_zero,Option.some.injEq] at bf;subst bf;exact afI (R:=R) (eI:=eI) (u8:=u8) hk (fi 2) (g1 2 _ rfl)
 | n+3,bf=>simp at bf
theorem VC{ji eI u8:TypeId}{di:Nat}{life:Int}{K:List cV}(h:(hT (R:=R) ji eI u8 di life K).p F w):∃(D:List kt) (e9:Nat),D.map nK=K/\(bh (R:=R) [aw di [.map (some e9),.int .i64 life] ji,lv fD nJ e9 (D.map λx=>(x.shard,x.ptr)),bh (D.map (hz eI u8))]).p F w:=by
 obtain⟨D,j0,e9,wz⟩:=h;exact⟨D,e9,j0,wz⟩
theorem af1{ji eI u8:TypeId}{di:Nat}{life:Int}{K:List cV}{D:List kt}{e9:Nat}(j0:D.map nK=K)(h:(bh (R:=R) [aw di [.map (some e9),.int .i64 life] ji,lv fD nJ e9 (D.map λx=>(x.shard,x.ptr)),bh (D.map (hz eI u8))]).p F w):(hT (R:=R) ji eI u8 di life K).p F w:=⟨D,j0,e9,h⟩
theorem af2{ji eI u8:TypeId}{di:Nat}{life:Int}{K:List cV}{D:List kt}{e9:Nat}{y:kt}{s:Int}{vc:List UInt8}(j0:D.map nK=K)(aE:nK y=(s,vc,vc))
 (h:(bh (R:=R) [aw di [.map (some e9),.int .i64 life] ji,lv fD nJ e9 ((D.map λx=>(x.shard,x.ptr))++[(s,y.ptr)]),bh (D.map (hz eI u8)),hz eI u8 y]).p F w):(hT (R:=R) ji eI u8 di life (K++[(s,vc,vc)])).p F w:=by
 have aT:y.shard=s:=congrArg Prod.fst aE;refine⟨D++[y],by rw[List.map_append,j0,List.map_singleton,aE],e9,?_⟩;have ah:Sep (R:=R) ([aw di [.map (some e9),.int .i64 life] ji,lv fD nJ e9 ((D.map λx=>(x.shard,x.ptr))++[(s,y.ptr)])]++[bh (D.map (hz eI u8)),hz eI u8 y]) F w:=h;obtain⟨fi,g1,g2,g3⟩:=ah.close;refine⟨fi,λi A bf=>?_,g2,g3⟩
 match i,bf with
 | 0,bf=>exact g1 0 A bf
 | 1,bf =>
  rw[List.map_append,List.map_singleton,aT] at bf;exact g1 1 A bf
 | 2,bf =>
  simp only[List.getElem?_cons_succ,List.getElem?_cons_zero,Option.some.injEq] at bf;subst bf;have k:Sep (R:=R) [bh (D.map (hz eI u8)),hz eI u8 y] (fi 2) w:=g1 2 _ rfl;have cD:Sep (R:=R) [hz eI u8 y,bh (D.map (hz eI u8))] (fi 2) w:=Sep.AQ (A:=[bh (D.map (hz eI u8))]) (B:=[hz eI u8 y]) k;have dK:=(Sep.open (L1:=[hz (R:=R) eI u8 y]) cD);have hs:=Sep.AQ (A:=[hz (R:=R) eI u8 y]) (B:=D.map (hz eI u8)) dK;show Sep (R:=R) ((D++[y]).map (hz eI u8)) (fi 2) w;rw[List.map_append,List.map_singleton];exact hs
 | n+3,bf=>simp at bf
theorem af3{ji eI u8:TypeId}{di e9:Nat}{life:Int}(h:(bh (R:=R) [aw di [.map (some e9),.int .i64 life] ji,lv fD nJ e9 []]).p F w):(hT (R:=R) ji eI u8 di life []).p F w:=by
 refine⟨[],rfl,e9,?_⟩;obtain⟨fi,g1,g2,g3⟩:=h;refine⟨λi b=>fi i b/\i<2,λi A bf=>?_,λi b ab=>g2 i b ab.1,λi j b mX ar bo=>g3 i j b mX ar.1 bo.1⟩
 match i,bf with
 | 0,bf =>
  have:=g1 0 A bf;simpa using this
 | 1,bf =>
  have:=g1 1 A bf;simpa using this
 | 2,bf =>
  simp only[List.getElem?_cons_succ,List.getElem?_cons_zero,Option.some.injEq] at bf;subst bf;exact⟨λ_ _=>False,λi A h=>by simp at h,λ_ _ h=>h.elim,λ_ _ _ _ h=>h.elim⟩
 | n+3,bf=>simp at bf
theorem Na{D:List kt}{s:Int}(h:∀x∈D,x.shard≠s):gw (D.map λx=>(x.shard,x.ptr)) s=none:=by
 rw[M_,List.find?_eq_none.2]
 . rfl
 . intro x ag;simpa using h x ag
end
section
variable {P:Program} {E:Env} {C:World->Prop} {d:Option Tmp} {ty:TypeId} {pos:String} {af:Array Edge} {gd:Option (Nat×Bool)} {α β:Type} [DecidableEq α] {key:α->Value} {val:β->Value}
theorem bA.E5{t e4 jo:TypeId}{x y:Operand}{b:Nat}{m:List (α×β)}{a:α}{z:Value}{u:β}(hk:KeyOk P e4 key)(a_:P.underlying t=some (.map e4 jo))(cO:∀w,(zeroValue jo).run P w=.ok z w)(ag:aO E x=some (.map (some b)))(aE:aO E y=some (key a))(hm:∀w,C w->nf key val w b m)(ay:gw m a=some u):
 bA P ⟨d,.lookup t x y false,ty,pos,af,gd⟩ E C (val u):=by
 have h:=bA.S5 (d:=d) (ty:=ty) (pos:=pos) (af:=af) (gd:=gd) (val:=val) hk a_ cO ag aE hm;rw[ay] at h;exact h
theorem bA.VD{t e4 jo:TypeId}{x y:Operand}{b:Nat}{m:List (α×β)}{a:α}{z:Value}(hk:KeyOk P e4 key)(a_:P.underlying t=some (.map e4 jo))(cO:∀w,(zeroValue jo).run P w=.ok z w)(ag:aO E x=some (.map (some b)))(aE:aO E y=some (key a))(hm:∀w,C w->nf key val w b m)(ay:gw m a=none):
 bA P ⟨d,.lookup t x y false,ty,pos,af,gd⟩ E C z:=by
 have h:=bA.S5 (d:=d) (ty:=ty) (pos:=pos) (af:=af) (gd:=gd) (val:=val) hk a_ cO ag aE hm;rw[ay] at h;exact h
end
end Go.aG
namespace Go.aG
open Go Go.ak
section
variable {P:Program} {E:Env} {C:World->Prop} {d:Option Tmp} {ty:TypeId} {pos:String} {af:Array Edge} {gd:Option (Nat×Bool)}
theorem bA.IC{t e:TypeId}{n sz by_ b off:Nat}{g:Bool}{z:List Value}{x y:Operand}{k:IntKind}{m:Int}(a_:P.underlying t=some (.array n e))(he:ey P e=some (g,sz,by_,z))(ag:aO E x=some (ptr b off))(aE:aO E y=some (.int k m))(i:Nat)(hm:m=(i:Int))(ar:i<n):
 bA P ⟨d,.indexAddr t x y,ty,pos,af,gd⟩ E C (ptr b (off+i*sz)):=
 bA.indexAddr ag aE λw=>by
  have bK:(0:Int)<=m/\m<(n:Int):=by omega
  have fU:m.toNat=i:=by omega
  simp[Instr.indexAt,asIntOf,run_underlying a_,bK,run_sizeOf he,add_lit,ptr,fU,Instr.sureAddr]
end
def ue(x:Int×Int):List Value:=[.int .i64 x.1,.int .i64 x.2]
theorem E6(x:Int×Int):(ue x).length=2:=rfl
theorem af4(x:Int×Int):(ue x).all (·.oneCell')=true:=rfl
def tf(w:World)(F:Nat->Prop)(bn:List c')(N:List kY):Prop:=c3 (λr n=>r.fin=n.1/\aq ue w F r.e.val n.2) bn N
theorem tf.keep{M:Nat->Prop}{w ao:World}{F:Nat->Prop}{bn:List c'}{N:List kY}(h:tf w F bn N)(hm:Mod M w ao)(bs:∀b,F b->¬ M b):tf ao F bn N:=
 c3.imp (λ_ _ k=>⟨k.1,k.2.keep hm bs⟩) h
theorem tf.mono{w:World}{F F':Nat->Prop}{bn:List c'}{N:List kY}(h:tf w F bn N)(bs:∀b,F b->F' b):tf w F' bn N:=
 c3.imp (λ_ _ k=>⟨k.1,k.2.mono bs⟩) h
theorem tf.at{w:World}{F:Nat->Prop}{bn:List c'}{N:List kY}(h:tf w F bn N){i:Nat}{r:c'}(a':bn[i]?=some r):∃n,N[i]?=some n/\r.fin=n.1/\aq ue w F r.e.val n.2:=by
 obtain⟨h1,ah⟩:=c3.get h;have ar:=(List.getElem?_eq_some_iff.1 a').1;exact⟨_,List.getElem?_eq_getElem aa,ah i r _ a' (List.getElem?_eq_getElem aa)⟩
def rT{R:Nat->Prop}(bn:List c')(N:List kY):dr R:=⟨λF w=>tf w F bn N,λh hm bs _=>h.keep hm bs⟩
theorem VE{R F:Nat->Prop}{w:World}{e:TypeId}{bn:List c'}{N:List kY}{x:c'}{n:kY}{v:Value}{es:List (Int×Int)}(cK:v=x.e.val)(bD:x.fin=n.1)(aR:es=n.2)(h:(bh (R:=R) [rT bn N,aP ue e 2 v es]).p F w):(rT (R:=R) (bn++[x]) (N++[n])).p F w:=by
 obtain⟨fs,bz,h1,ah,aB,bH⟩:=u9 h;exact c3.app (tf.mono h1 aB) (.cons ⟨bD,cK▸aR▸(td ah).mono bH⟩ .nil)
theorem au.af5{R bV:Nat->Prop}{w0 w:World}{L:List (dr R)}{i:Nat}{bn:List c'}{N:List kY}(h:au R bV w0 w L)(ar:L[i]?=some (rT bn N)):tf w (dq 0 w.heap.size) bn N:=by
 obtain⟨F,h1,ah⟩:=h.get ar;exact tf.mono h1 λb ab=>⟨Nat.zero_le _,ah b ab⟩
def Nb{R:Nat->Prop}(kX MD:TypeId)(b:Nat)(fin:Bool)(es:List (Int×Int)):dr R:=nF λv:Value=>bh [aw b [.bool fin,v] kX,aP ue MD 2 v es]
end Go.aG
namespace Go.ak
open Go.aG
theorem af6{b:List UInt8}(h:b.length<4):false=nh b:=by unfold nh;exact(decide_eq_false λk=>k.1 h).symm
theorem af7{b:List UInt8}(h:nh b=true):4<=b.length:=by unfold nh at h;have:=(of_decide_eq_true h).1;omega
theorem af8{b:List UInt8}{r:Bool}(h:¬ b.length<4)(a':r=(j6 b ((b.length:Int)-4) 4==(kB (b.take (b.length-4)):Int))):r=nh b:=by
 unfold nh;rw[a'];by_cases k:j6 b ((b.length:Int)-4) 4=(kB (b.take (b.length-4)):Int)
 . rw[beq_iff_eq.2 k];exact(decide_eq_true ⟨h,k⟩).symm
 . rw[beq_eq_false_iff_ne.2 k];exact(decide_eq_false λq=>k q.2).symm
def pz(b:List UInt8)(c:Nat)(dG:Int×Bool)(z:Nat)(es:List (Int×Int))(s:Int×Bool):Prop:=pv b c dG=(es++(pv b z s).1,(pv b z s).2)
theorem pz.start(b:List UInt8)(c:Nat)(s:Int×Bool):pz b c s c [] s:=by unfold pz;simp
theorem pz.step{b:List UInt8}{c z:Nat}{dG:Int×Bool}{a:Int}{es:List (Int×Int)}{e:Int×Int}{jT:Int×Bool}(h:pz b c dG (z+1) es (a,false))(he:y0 b (a,false)=(e,jT)):pz b c dG z (es++[e]) jT:=by
 unfold pz at *;rw[h]
 conv=>lhs;unfold pv
 rw[if_neg dh,he];simp
theorem af9{b:List UInt8}{s:Int×Bool}(h:s.2=true):∀n,pv b n s=([],s)
 | 0=>rfl
 | n+1=>by unfold pv;rw[if_pos h]
theorem pz.bad{b:List UInt8}{c z:Nat}{dG:Int×Bool}{a:Int}{es:List (Int×Int)}(h:pz b c dG z es (a,true)):pv b c dG=(es,(a,true)):=by
 unfold pz at h;rw[h,af9 rfl];simp
theorem pz.fin{b:List UInt8}{c:Nat}{dG:Int×Bool}{es:List (Int×Int)}{s:Int×Bool}(h:pz b c dG 0 es s):pv b c dG=(es,s):=by
 unfold pz at h;rw[h];simp[pv]
def rU(b:List UInt8)(c:Nat)(dG:Int×Bool)(i:Nat)(N:List kY)(s:Int×Bool):Prop:=k9 b c dG=(N++(k9 b (c-i) s).1,(k9 b (c-i) s).2)
theorem rU.start(b:List UInt8)(c:Nat)(s:Int×Bool):rU b c s 0 [] s:=by unfold rU;simp
theorem rU.step{b:List UInt8}{c i:Nat}{dG:Int×Bool}{a:Int}{N:List kY}{e:kY}{jT:Int×Bool}(h:rU b c dG i N (a,false))(ar:i<c)(he:y1 b (a,false)=(e,jT)):rU b c dG (i+1) (N++[e]) jT:=by
 unfold rU at *;rw[h];obtain⟨k,hk⟩:∃k,c-i=k+1:=⟨c-i-1,by omega⟩;rw[hk,show c-(i+1)=k from by omega]
 conv=>lhs;unfold k9
 rw[if_neg dh,he];simp
theorem af_{b:List UInt8}{s:Int×Bool}(h:s.2=true):∀n,k9 b n s=([],s)
 | 0=>rfl
 | n+1=>by unfold k9;rw[if_pos h]
theorem rU.bad{b:List UInt8}{c i:Nat}{dG:Int×Bool}{a:Int}{N:List kY}(h:rU b c dG i N (a,true)):k9 b c dG=(N,(a,true)):=by
 unfold rU at h;rw[h,af_ rfl];simp
theorem rU.fin{b:List UInt8}{c i:Nat}{dG:Int×Bool}{N:List kY}{s:Int×Bool}(h:rU b c dG i N s)(ar:c<=i):k9 b c dG=(N,s):=by
 unfold rU at h;rw[h,show c-i=0 from by omega];simp[k9]
theorem af'{b:List UInt8}{a ib a2 cf bM:Int}{q d_ q2:Bool}(h1:(cf,(ib,d_))=eb b 4 (a,q))(ah:(bM,(a2,q2))=eb b 2 (ib,d_)):y0 b (a,q)=((cf,bM),(a2,q2)):=by
 unfold y0;rw[<-h1];dsimp only;rw[<-ah]
theorem VF{b:List UInt8}{a ib a2 a3 cf bM:Int}{q d_ q2 fE:Bool}{es:List (Int×Int)}(h1:(cf,(ib,d_))=eb b 1 (a,q))(ah:(bM,(a2,q2))=eb b 2 (ib,d_))(aB:pv b bM.toNat (a2,q2)=(es,(a3,fE))){f:Bool}(bD:f=decide (cf=1)):y1 b (a,q)=((f,es),(a3,fE)):=by
 unfold y1;rw[<-h1];dsimp only;rw[<-ah];dsimp only;rw[aB,bD]
theorem ID{N:List kY}{f:Nat}{n d:Int}{a:aj}{out:List aj}(h:n<0\/n>=N.length\/d>12\/out.length>60):iu N (f+1) n d a out=(out,false):=by unfold iu;rw[if_pos h]
theorem aga{N:List kY}{f:Nat}{n d:Int}{a:aj}{out:List aj}{x:kY}(h:¬ (n<0\/n>=N.length\/d>12\/out.length>60))(ag:N[n.toNat]?=some x):iu N (f+1) n d a out=o4 (λout e=>iu N f e.2 (d+1) (a++fC e.1) out) (if x.1=true then out++[a] else out) x.2:=by
 conv=>lhs;unfold iu
 rw[if_neg h,ag]
theorem y5(g:List aj->Int×Int->List aj×Bool)(out:List aj){l:List (Int×Int)}{k:Nat}(hk:l.length<=k):o4 g out (l.drop k)=(out,true):=by
 rw[List.drop_of_length_le hk];rfl
theorem Nc{α:Type}{l:List α}{k:Nat}{x:α}(ag:l[k]?=some x):l.drop k=x::l.drop (k+1):=by
 obtain⟨h,rfl⟩:=List.getElem?_eq_some_iff.1 ag;exact List.drop_eq_getElem_cons h
theorem y6{g:List aj->Int×Int->List aj×Bool}{out:List aj}{l:List (Int×Int)}{k:Nat}{e:Int×Int}(ag:l[k]?=some e)(h:e.1>1114111):o4 g out (l.drop k)=(out,false):=by
 rw[Nc ag];unfold o4;rw[if_pos h]
theorem y7{g:List aj->Int×Int->List aj×Bool}{out:List aj}{l:List (Int×Int)}{k:Nat}{e:Int×Int}(ag:l[k]?=some e)(h:¬ e.1>1114111)(ah:(g out e).2=false\/(g out e).1.length=out.length):o4 g out (l.drop k)=((g out e).1,false):=by
 rw[Nc ag];unfold o4;rw[if_neg h,if_pos ah]
theorem agb{g:List aj->Int×Int->List aj×Bool}{out:List aj}{l:List (Int×Int)}{k:Nat}{e:Int×Int}(ag:l[k]?=some e)(h:¬ e.1>1114111)(ah:¬ ((g out e).2=false\/(g out e).1.length=out.length)):o4 g out (l.drop k)=o4 g (g out e).1 (l.drop (k+1)):=by
 rw[Nc ag];conv=>lhs;unfold o4
 rw[if_neg h,if_neg ah]
def IE(N:List kY):Prop:=N.length<=65536/\∀x∈N,x.2.length<=65536/\∀e∈x.2,0<=e.1/\e.1<=4294967295/\0<=e.2/\e.2<=65535
theorem VG{N:List kY}(h:IE N)(bl:N.length<65536){f:Bool}{es:List (Int×Int)}(he:es.length<=65536/\∀e∈es,0<=e.1/\e.1<=4294967295/\0<=e.2/\e.2<=65535):IE (N++[(f,es)]):=by
 refine⟨by rw[List.length_append];simp only[List.length_cons,List.length_nil];omega,λx ag=>?_⟩;rcases List.mem_append.1 ag with ag|ag
 . exact h.2 x ag
 . rw[List.mem_singleton] at ag;subst ag;exact he
theorem VH{b:List UInt8}(h:(iz b).1≠[]):(h7 b).2=0:=by
 have h1:=(CP b).1;by_cases ah:(iz b).2=0
 . exact h1.symm.trans ah
 . exact absurd (afi ah) h
theorem Nd{b:List UInt8}(h:(iz b).1≠[]):e6 (h7 b).1=0/\(iz b).1=h' (h7 b).1:=
 (CP b).2 ((CP b).1.trans (VH h))
end Go.ak
namespace Go.ak
open Go.aG
def nL(q:List Int)(f:Nat->Int)(r:Int):Nat->Int
 | 0=>f 0+1
 | i+1=>min (min (f (i+1)+1) (nL q f r i+1)) (f i+if q[i]?=some r then 0 else 1)
def hU(q:List Int)(p:List Int):Nat->Int:=p.foldl (nL q) λi=>(i:Int)
theorem IF(q p:List Int)(r:Int):hU q (p++[r])=nL q (hU q p) r:=by unfold hU;rw[List.foldl_append];rfl
def vd(q p:List Int):Int:=hU q p q.length
structure p6(f:Nat->Int):Prop where
 pos:∀i,0<=f i
 one:∀i,f (i+1)<=f i+1/\f i<=f (i+1)+1
theorem agc{q:List Int}{f:Nat->Int}{r:Int}(h:p6 f):∀i,nL q f r i<=f i+1
 | 0=>Int.le_refl _
 | i+1=>by unfold nL;omega
theorem step_pos{q:List Int}{f:Nat->Int}{r:Int}(h:p6 f):∀i,0<=nL q f r i
 | 0=>by have:=h.pos 0;unfold nL;omega
 | i+1=>by
  have h1:=h.pos (i+1);have ah:=h.pos i;have aB:=step_pos (q:=q) (r:=r) h i
  unfold nL;split<;>omega
theorem p6.step {q : List Int} {f : Nat → Int} {r : Int} (h : p6 f) : p6 (nL q f r) := by
  refine ⟨step_pos h, fun i => ⟨by conv => lhs; unfold nL
                                   omega, ?_⟩⟩
  have h1 := agc (q := q) (r := r) h i;have ah := h.one i;show nL q f r i ≤ (min (min (f (i + 1) + 1) (nL q f r i + 1)) (f i + if q[i]? = some r then 0 else 1)) + 1;split <;> omega
theorem p6.id:p6 λi=>(i:Int):=⟨λi=>by omega,λi=>by constructor<;>omega⟩
theorem VI(q:List Int):∀p:List Int,p6 (hU q p):=by
 intro p;unfold hU
 have:∀(p:List Int) (f:Nat->Int),p6 f->p6 (p.foldl (nL q) f):=by
  intro p
  induction p with
  | nil=>intro f h;exact h
  | cons r p cc=>intro f h;exact cc _ h.step
 exact this p _ p6.id
theorem Nf{f:Nat->Int}(h:p6 f):∀(i d:Nat),f (i+d)<=f i+d/\f i<=f (i+d)+d
 | i,0=>by simp
 | i,d+1=>by
  have h1:=Nf h i d
  have ah:=h.one (i+d)
  rw[show i+(d+1)=i+d+1 from by omega]
  omega
theorem IG{f:Nat->Int}(h:p6 f)(i j:Nat):f i<=f j+max ((i:Int)-j) ((j:Int)-i):=by
 rcases Nat.le_total i j with mX|mX
 . have:=(Nf h i (j-i)).2;rw[show i+(j-i)=j from by omega] at this;omega
 . have:=(Nf h j (i-j)).1;rw[show j+(i-j)=i from by omega] at this;omega
def jL(k:Int)(f:Nat->Int)(i:Nat):Int:=min (f i) (k+1)
theorem p6.cap{f:Nat->Int}{k:Int}(hk:0<=k)(h:p6 f):p6 (jL k f):=⟨λi=>by have:=h.pos i;unfold jL;omega,λi=>by have:=h.one i;unfold jL;omega⟩
def fH(k:Int)(q:List Int)(f:Nat->Int)(r:Int):Nat->Int
 | 0=>min (f 0+1) (k+1)
 | i+1=>min (min (min (f (i+1)+1) (fH k q f r i+1)) (f i+if q[i]?=some r then 0 else 1)) (k+1)
theorem VJ(k:Int)(q:List Int)(f:Nat->Int)(r:Int):∀i,fH k q (jL k f) r i=jL k (nL q f r) i
 | 0=>by unfold fH jL nL;omega
 | i+1=>by
  have cc:=VJ k q f r i
  show min (min (min (jL k f (i+1)+1) (fH k q (jL k f) r i+1)) (jL k f i+if q[i]?=some r then 0 else 1)) (k+1)=min (min (min (f (i+1)+1) (nL q f r i+1)) (f i+if q[i]?=some r then 0 else 1)) (k+1)
  rw[cc]
  unfold jL
  split<;>omega
structure Pos where
 at_:Int
 cp:Int
deriving DecidableEq
def nk(n:Nat)(k:Int)(f:Nat->Int)(j:Nat):Bool:=(List.range n).any λ(i:Nat)=>decide (f i<f j) && decide (max ((i:Int)-(j:Int)) ((j:Int)-(i:Int))<=f j-f i)
def fM(n:Nat)(k:Int)(f:Nat->Int):List Pos:=((List.range n).filter λ(j:Nat)=>decide (f j<=k) && !nk n k f j).map λ(j:Nat)=>Pos.mk (j:Int) (f j)
def dX(n:Nat)(k:Int)(s:List Pos)(i:Nat):Int:=s.foldl (λ(a:Int) (p:Pos)=>if (0<=p.at_/\p.at_<=(n:Int)/\0<=p.cp/\p.cp<=k)/\max ((i:Int)-p.at_) (p.at_-(i:Int))<=k then min a (p.cp+max ((i:Int)-p.at_) (p.at_-(i:Int))) else a) (k+1)
theorem IH{α:Type}(g:α->Option Int):∀(l:List α) (a:Int),l.foldl (λa p=>match g p with|some x=>min a x|none=>a) a<=a
 | [],a=>Int.le_refl _
 | p::l,a=>by
  rw[List.foldl_cons]
  have:=IH g l (match g p with|some x=>min a x|none=>a)
  cases h:g p with
  | none=>rw[h] at this;exact this
  | some x=>rw[h] at this;simp only at this ⊢;omega
theorem VK{α:Type}(g:α->Option Int):∀(l:List α) (a x:Int) (p:α),p∈l->g p=some x->l.foldl (λa p=>match g p with|some x=>min a x|none=>a) a<=x
 | q::l,a,x,p,hp,ag=>by
  rw[List.foldl_cons]
  rcases List.mem_cons.1 hp with rfl|hp
  . have:=IH g l (match g p with|some x=>min a x|none=>a)
    rw[ag] at this ⊢;simp only at this ⊢;omega
  . exact VK g l _ x p hp ag
theorem Ng{α:Type}(g:α->Option Int)(m:Int):∀(l:List α) (a:Int),m<=a->(∀p∈l,∀x,g p=some x->m<=x)->m<=l.foldl (λa p=>match g p with|some x=>min a x|none=>a) a
 | [],a,h,_=>h
 | p::l,a,h,bl=>by
  rw[List.foldl_cons]
  refine Ng g m l _ ?_ λq dM=>bl q (by simp[dM])
  cases aV:g p with
  | none=>exact h
  | some x=>have:=bl p dh x aV;simp only;omega
def xJ(n:Nat)(k:Int)(i:Nat)(p:Pos):Option Int:=if (0<=p.at_/\p.at_<=(n:Int)/\0<=p.cp/\p.cp<=k)/\max ((i:Int)-p.at_) (p.at_-(i:Int))<=k then some (p.cp+max ((i:Int)-p.at_) (p.at_-(i:Int))) else none
theorem VL(n:Nat)(k:Int)(s:List Pos)(i:Nat):dX n k s i=s.foldl (λa p=>match xJ n k i p with|some x=>min a x|none=>a) (k+1):=by
 unfold dX;congr 1
 funext a p;unfold xJ;split<;>rfl
theorem VM{n:Nat}{k:Int}{f:Nat->Int}{p:Pos}:p∈fM n k f↔∃j,j<n/\f j<=k/\nk n k f j=false/\p=⟨(j:Int),f j⟩:=by
 unfold fM;simp only[List.mem_map,List.mem_filter,List.mem_range,Bool.and_eq_true,decide_eq_true_eq,Bool.not_eq_true'];constructor
 . rintro⟨j,⟨h1,ah,aB⟩,rfl⟩;exact⟨j,h1,ah,aB,rfl⟩
 . rintro⟨j,h1,ah,aB,rfl⟩;exact⟨j,⟨h1,ah,aB⟩,rfl⟩
theorem VN{n:Nat}{k:Int}{f:Nat->Int}(h:p6 f):∀(m i:Nat),f i<=m->i<n->∃j,j<n/\nk n k f j=false/\f j+max ((i:Int)-j) ((j:Int)-i)=f i
 | 0,i,hm,ar=>by
  refine⟨i,ar,?_,by omega⟩
  unfold nk
  rw[List.any_eq_false]
  intro j bo
  have:=h.pos j
  simp only[Bool.and_eq_true,decide_eq_true_eq,not_and]
  intro hP;omega
 | m+1,i,hm,ar=>by
  by_cases bl:nk n k f i=true
  . unfold nk at bl
    rw[List.any_eq_true] at bl
    obtain⟨j,bo,al⟩:=bl
    simp only[Bool.and_eq_true,decide_eq_true_eq] at al
    have agd:=List.mem_range.1 bo
    have h1:=IG h i j
    obtain⟨t,a_,E7,arD⟩:=VN (k:=k) h m j aa agd
    refine⟨t,a_,E7,?_⟩
    have ah:=IG h i t
    omega
  . exact⟨i,ar,by simpa using bl,by omega⟩
theorem age{n:Nat}{k:Int}{f:Nat->Int}(hk:0<=k)(h:p6 f){i:Nat}(ar:i<n+1):dX n k (fM (n+1) k f) i=jL k f i:=by
 rw[VL]
 have yy:jL k f i<=(fM (n+1) k f).foldl (λa p=>match xJ n k i p with|some x=>min a x|none=>a) (k+1):=by
  refine Ng _ _ _ _ (by unfold jL;omega) λp hp x ag=>?_
  obtain⟨j,h1,ah,aB,rfl⟩:=VM.1 hp
  unfold xJ at ag
  split at ag
  . cases ag
    have:=IG h i j
    unfold jL;simp only;omega
  . cases ag
 have hle:(fM (n+1) k f).foldl (λa p=>match xJ n k i p with|some x=>min a x|none=>a) (k+1)<=jL k f i:=by
  by_cases al:f i<=k
  . obtain⟨j,h1,ah,aB⟩:=VN (n:=n+1) (k:=k) h (f i).toNat i aa ar
    have hp:=h.pos j
    have:=VK (xJ n k i) (fM (n+1) k f) (k+1) (f i) ⟨(j:Int),f j⟩ (VM.2 ⟨j,h1,by omega,ah,rfl⟩) (by
     unfold xJ
     rw[if_pos (by simp only;omega)]
     simp only
     rw[aB])
    unfold jL;omega
  . have:=IH (xJ n k i) (fM (n+1) k f) (k+1)
    unfold jL;omega
 omega
theorem agf{n:Nat}{k:Int}(f:Nat->Int):fM n k (jL k f)=fM n k f:=by
 unfold fM
 have bD:∀j,(decide (jL k f j<=k) && !nk n k (jL k f) j)=(decide (f j<=k) && !nk n k f j):=by
  intro j
  by_cases bo:f j<=k
  . have fU:jL k f j=f j:=by unfold jL;omega
    have je:nk n k (jL k f) j=nk n k f j:=by
     unfold nk
     refine List.any_congr rfl λi=>?_
     rw[fU]
     by_cases ar:f i<=k
     . rw[show jL k f i=f i from by unfold jL;omega]
     . rw[show decide (jL k f i<f j)=false from decide_eq_false (by unfold jL;omega),show decide (f i<f j)=false from decide_eq_false aa,Bool.false_and,Bool.false_and]
    rw[fU,je]
  . rw[show decide (jL k f j<=k)=false from decide_eq_false (by unfold jL;omega),show decide (f j<=k)=false from decide_eq_false bo]
    rfl
 rw[List.filter_congr λj _=>bD j];refine List.map_congr_left λj bo=>?_
 have:=(List.mem_filter.1 bo).2;simp only[Bool.and_eq_true,decide_eq_true_eq] at this;rw[show jL k f j=f j from by unfold jL;omega]
def ft(q:List Int)(k:Int)(p:List Int):List Pos:=fM (q.length+1) k (hU q p)
theorem E8{q:List Int}{k:Int}(hk:0<=k)(p:List Int){i:Nat}(ar:i<q.length+1):dX q.length k (ft q k p) i=jL k (hU q p) i:=age hk (VI q p) ar
theorem agh{q:List Int}{k:Int}(hk:0<=k):ft q k []=[⟨0,0⟩]:=by
 unfold ft fM
 have bD:∀j∈List.range (q.length+1),(decide (hU q [] j<=k) && !nk (q.length+1) k (hU q []) j)=decide (j=0):=by
  intro j bo
  by_cases bK:j=0
  . subst bK
    have:nk (q.length+1) k (hU q []) 0=false:=by
     unfold nk
     rw[List.any_eq_false]
     intro i ar
     simp only[Bool.and_eq_true,decide_eq_true_eq,not_and]
     intro hP
     have:(i:Int)<((0:Nat):Int):=hP
     omega
    rw[this]
    have:hU q [] 0=0:=rfl
    rw[this]
    simp[hk]
  . have:nk (q.length+1) k (hU q []) j=true:=by
     unfold nk
     rw[List.any_eq_true]
     refine⟨0,by simp,?_⟩
     simp only[Bool.and_eq_true,decide_eq_true_eq]
     have j5:hU q [] 0=0:=rfl
     have agi:hU q [] j=(j:Int):=rfl
     rw[j5,agi]
     omega
    rw[this]
    simp[bK]
 rw[List.filter_congr bD]
 have:(List.range (q.length+1)).filter (λj=>decide (j=0))=[0]:=by
  rw[List.range_succ_eq_map,List.filter_cons_of_pos dh]
  congr 1
  rw[List.filter_eq_nil_iff]
  intro a ay
  obtain⟨b,_,rfl⟩:=List.mem_map.1 ay
  simp
 rw[this];rfl
theorem VO{q:List Int}{k:Int}(hk:0<=k)(p:List Int)(r:Int):fM (q.length+1) k (fH k q (dX q.length k (ft q k p)) r)=ft q k (p++[r]):=by
 unfold ft;rw[IF,<-agf (nL q (hU q p) r)]
 have al:∀i,i<q.length+1->fH k q (dX q.length k (ft q k p)) r i=jL k (nL q (hU q p) r) i:=by
  intro i ar
  rw[<-VJ]
  have:∀i,i<q.length+1->fH k q (dX q.length k (ft q k p)) r i=fH k q (jL k (hU q p)) r i:=by
   intro i
   induction i with
   | zero=>intro ar;unfold fH;rw[E8 hk p ar]
   | succ i cc =>
    intro ar
    show min (min (min (dX q.length k (ft q k p) (i+1)+1) (fH k q (dX q.length k (ft q k p)) r i+1)) (dX q.length k (ft q k p) i+if q[i]?=some r then 0 else 1)) (k+1)=min (min (min (jL k (hU q p) (i+1)+1) (fH k q (jL k (hU q p)) r i+1)) (jL k (hU q p) i+if q[i]?=some r then 0 else 1)) (k+1)
    rw[cc aa,E8 hk p ar,E8 hk p (by omega:i<q.length+1)]
  exact this i ar
 exact agj al
where
 agj {n:Nat} {k:Int} {f g:Nat->Int} (h:∀i,i<n->f i=g i):fM n k f=fM n k g:=by
  unfold fM
  have bl:∀j,j<n->nk n k f j=nk n k g j:=by
   intro j bo
   unfold nk
   rw[Bool.eq_iff_iff,List.any_eq_true,List.any_eq_true]
   constructor
   . rintro⟨i,ar,al⟩
     refine⟨i,ar,?_⟩
     rw[<-h i (List.mem_range.1 ar),<-h j bo];exact al
   . rintro⟨i,ar,al⟩
     refine⟨i,ar,?_⟩
     rw[h i (List.mem_range.1 ar),h j bo];exact al
  rw[List.filter_congr λj bo=>by rw[h j (List.mem_range.1 bo),bl j (List.mem_range.1 bo)]]
  refine List.map_congr_left λj bo=>?_
  have:=List.mem_range.1 (List.mem_filter.1 bo).1
  rw[h j this]
theorem VP{q:List Int}{f:Nat->Int}{r m:Int}(h:∀i,i<q.length+1->m<=f i):∀i,i<q.length+1->m<=nL q f r i
 | 0,ar=>by have:=h 0 ar;unfold nL;omega
 | i+1,ar=>by
  have h1:=h (i+1) ar;have ah:=h i aa;have aB:=VP (r:=r) h i aa
  unfold nL;split<;>omega
theorem agk{q:List Int}{k:Int}(hk:0<=k){p:List Int}(h:ft q k p=[]):∀i,i<q.length+1->k+1<=hU q p i:=by
 intro i ar;have:=E8 hk p ar;rw[h] at this;have e:dX q.length k [] i=k+1:=rfl;rw[e] at this;unfold jL at this;omega
theorem agl{q:List Int}{k:Int}{p:List Int}(h:∀i,i<q.length+1->k+1<=hU q p i):∀(u:List Int),k+1<=vd q (p++u):=by
 have key:∀(u p:List Int),(∀i,i<q.length+1->k+1<=hU q p i)->∀i,i<q.length+1->k+1<=hU q (p++u) i:=by
  intro u
  induction u with
  | nil=>intro p h;simpa using h
  | cons r u cc =>
   intro p h
   have:=cc (p++[r]) (by rw[IF];exact VP h)
   rw[List.append_assoc] at this
   exact this
 intro u;exact key u p h q.length aa
theorem agm{q:List Int}{k:Int}(hk:0<=k)(p:List Int):dX q.length k (ft q k p) q.length=min (vd q p) (k+1):=E8 hk p aa
end Go.ak
namespace Go.ak
open Go.aG
def lz(x:Pos):List Value:=[.int .i64 x.at_,.int .i64 x.cp]
theorem VQ(x:Pos):(lz x).length=2:=rfl
theorem agn(x:Pos):(lz x).all (·.oneCell')=true:=rfl
def gq(n:Nat)(f:Nat->Int):List Int:=(List.range (n+1)).map f
theorem xK(n:Nat)(f:Nat->Int):(gq n f).length=n+1:=by simp[gq]
theorem o6{n:Nat}{f:Nat->Int}{i:Nat}{x:Int}(h:(gq n f)[i]?=some x):x=f i/\i<n+1:=by
 obtain⟨ar,h1⟩:=List.getElem?_eq_some_iff.1 h;rw[xK] at ar;unfold gq at h;rw[List.getElem?_map,List.getElem?_range ar] at h;exact⟨by simpa using h.symm,ar⟩
theorem E9{n:Nat}{f g:Nat->Int}(h:∀i,i<n+1->f i=g i):gq n f=gq n g:=by
 unfold gq;exact List.map_congr_left λi ar=>h i (List.mem_range.1 ar)
theorem II{n:Nat}{f g:Nat->Int}{i:Nat}{x:Int}(ar:i<n+1)(ag:x=g i)(h:∀j,j<n+1->j≠i->f j=g j):(gq n f).set i x=gq n g:=by
 refine List.ext_getElem? λj=>?_
 unfold gq;rw[List.getElem?_set];split
 . rename_i e;subst e;rw[if_pos (by simp;exact ar),List.getElem?_map,List.getElem?_range ar,ag];rfl
 . rename_i dL;by_cases bo:j<n+1
   . rw[List.getElem?_map,List.getElem?_map,List.getElem?_range bo];simp[h j bo (λe=>dL e.symm)]
   . rw[List.getElem?_eq_none (by simp;omega),List.getElem?_eq_none (by simp;omega)]
theorem ago(n:Nat)(k:Int):List.replicate (n+1) (0:Int)=gq n λj=>if j<0 then k+1 else 0:=by
 refine List.ext_getElem (by simp[gq]) λi h1 ah=>?_
 simp[gq]
theorem agp{n i:Nat}{k:Int}{l:List Int}(h:l=gq n λj=>if j<i then k+1 else 0)(ar:i<n+1):l.set i (k+1)=gq n λj=>if j<i+1 then k+1 else 0:=by
 rw[h];refine II ar dh λj bo dL=>?_
 by_cases i_:j<i
 . rw[if_pos i_,if_pos aa]
 . rw[if_neg i_,if_neg aa]
theorem agq{n i:Nat}{k:Int}{l:List Int}(h:l=gq n λj=>if j<i then k+1 else 0)(ar:n+1<=i):l=gq n (dX n k []):=by
 rw[h];refine E9 λj bo=>?_
 rw[if_pos aa];rfl
theorem agr(n:Nat)(k:Int)(s:List Pos)(p:Pos)(x:Nat):dX n k (s++[p]) x=if (0<=p.at_/\p.at_<=(n:Int)/\0<=p.cp/\p.cp<=k)/\max ((x:Int)-p.at_) (p.at_-(x:Int))<=k then min (dX n k s x) (p.cp+max ((x:Int)-p.at_) (p.at_-(x:Int))) else dX n k s x:=by
 unfold dX;rw[List.foldl_append];rfl
theorem IJ{n:Nat}{k:Int}{s:List Pos}{j:Nat}{p:Pos}(hp:s[j]?=some p)(x:Nat):dX n k (s.take (j+1)) x=if (0<=p.at_/\p.at_<=(n:Int)/\0<=p.cp/\p.cp<=k)/\max ((x:Int)-p.at_) (p.at_-(x:Int))<=k then min (dX n k (s.take j) x) (p.cp+max ((x:Int)-p.at_) (p.at_-(x:Int))) else dX n k (s.take j) x:=by
 rw[List.take_add_one,hp];exact agr n k _ p x
def tg(n:Nat)(k:Int)(s:List Pos)(j:Nat)(i:Int)(x:Nat):Int:=if (x:Int)<i then dX n k (s.take (j+1)) x else dX n k (s.take j) x
theorem ags{n:Nat}{k:Int}{s:List Pos}{j:Nat}{p:Pos}(hp:s[j]?=some p)(h:p.at_<0\/p.at_>(n:Int)\/p.cp<0\/p.cp>k):gq n (dX n k (s.take j))=gq n (dX n k (s.take (j+1))):=by
 refine E9 λx _=>?_
 rw[IJ hp,if_neg aa]
theorem agt{n:Nat}{k:Int}{s:List Pos}{j:Nat}{p:Pos}(hp:s[j]?=some p){i:Int}(ar:i=max (p.at_-k) 0):gq n (dX n k (s.take j))=gq n (tg n k s j i):=by
 refine E9 λx _=>?_
 unfold tg;split
 . rw[IJ hp,if_neg aa]
 . rfl
theorem agu{n:Nat}{k:Int}{s:List Pos}{j:Nat}{p:Pos}(hp:s[j]?=some p){i:Int}(bK:0<=i)(AL:i<=(n:Int))(cK:0<=p.at_/\p.at_<=(n:Int)/\0<=p.cp/\p.cp<=k)(h1:p.at_-k<=i)(ah:i<=p.at_+k){x:Int}(ag:(gq n (tg n k s j i))[i.toNat]?=some x):
 (gq n (tg n k s j i)).set i.toNat (min x (p.cp+max (i-p.at_) (p.at_-i)))=gq n (tg n k s j (i+1)):=by
 obtain⟨wA,hP⟩:=o6 ag;have ar:(i.toNat:Int)=i:=(by omega);refine II hP ?_ λy aE dL=>?_
 . rw[wA];unfold tg;rw[if_neg aa,if_pos aa,IJ hp,if_pos ⟨cK,by omega⟩,ar]
 . unfold tg;by_cases h:(y:Int)<i
   . rw[if_pos h,if_pos aa]
   . rw[if_neg h,if_neg aa]
theorem agv{n:Nat}{k:Int}{s:List Pos}{j:Nat}{p:Pos}(hp:s[j]?=some p){i:Int}(h:i>min (p.at_+k) (n:Int)):gq n (tg n k s j i)=gq n (dX n k (s.take (j+1))):=by
 refine E9 λx ag=>?_
 unfold tg;split
 . rfl
 . rw[IJ hp,if_neg aa]
theorem agw{n:Nat}{k:Int}{s:List Pos}{j:Nat}{l:List Int}(h:l=gq n (dX n k (s.take j)))(bo:s.length<=j):l=gq n (dX n k s):=by
 rw[h,List.take_of_length_le bo]
theorem xL{n:Nat}{k:Int}(hk:0<=k)(s:List Pos)(x:Nat):0<=dX n k s x/\dX n k s x<=k+1:=by
 rw[VL];refine⟨Ng _ _ _ _ aa λp hp y aE=>?_,IH _ _ _⟩;unfold xJ at aE;split at aE
 . cases aE;omega
 . cases aE
theorem arE{n:Nat}{k:Int}{s:List Pos}{j:Nat}{i:Int}{x:Nat}(hk:0<=k):0<=tg n k s j i x/\tg n k s j i x<=k+1:=by
 unfold tg;split<;>exact xL hk _ _
def q8(n:Nat)(f:Nat->Int)(j:Nat)(i:Int):Bool:=(List.range n).any λ(x:Nat)=>(decide (f x<f j) && decide (max ((x:Int)-(j:Int)) ((j:Int)-(x:Int))<=f j-f x)) && decide ((x:Int)<i)
theorem agx{n:Nat}{f:Nat->Int}{j:Nat}{k i:Int}(hp:∀x,0<=f x)(bo:f j<=k)(ar:i=max ((j:Int)-k) 0):false=q8 n f j i:=by
 symm;unfold q8;rw[List.any_eq_false];intro x ag;have:=hp x;simp only[Bool.and_eq_true,decide_eq_true_eq,not_and];intro h;omega
theorem VR{n:Nat}{f:Nat->Int}{j:Nat}{i:Int}{b:Bool}(ab:b=q8 n f j i)(bK:0<=i)(aR:i<(n:Int)){c:Bool}(al:c=(decide (f i.toNat<f j) && decide (max (i-(j:Int)) ((j:Int)-i)<=f j-f i.toNat))):(b || c)=q8 n f j (i+1):=by
 rw[ab,Bool.eq_iff_iff];have ar:(i.toNat:Int)=i:=(by omega);unfold q8;rw[Bool.or_eq_true,List.any_eq_true,List.any_eq_true];constructor
 . rintro(⟨x,ag,h⟩|h)
   . refine⟨x,ag,?_⟩;simp only[Bool.and_eq_true,decide_eq_true_eq] at h ⊢;omega
   . refine⟨i.toNat,List.mem_range.2 aa,?_⟩;rw[al] at h;simp only[Bool.and_eq_true,decide_eq_true_eq] at h ⊢;rw[ar];omega
 . rintro⟨x,ag,h⟩;simp only[Bool.and_eq_true,decide_eq_true_eq] at h;by_cases IK:(x:Int)<i
   . left;refine⟨x,ag,?_⟩;simp only[Bool.and_eq_true,decide_eq_true_eq];omega
   . right;have:x=i.toNat:=by omega
     subst this;rw[al,ar] at *;simp only[Bool.and_eq_true,decide_eq_true_eq];omega
theorem VS{n:Nat}{f:Nat->Int}{j:Nat}{k i:Int}{b:Bool}(ab:b=q8 n f j i)(hp:∀x,0<=f x)(bo:f j<=k)(ar:i>min ((j:Int)+k) ((n:Int)-1)):b=nk n k f j:=by
 rw[ab];unfold q8 nk;rw[Bool.eq_iff_iff,List.any_eq_true,List.any_eq_true];constructor
 . rintro⟨x,ag,h⟩;rw[Bool.and_eq_true] at h;exact⟨x,ag,h.1⟩
 . rintro⟨x,ag,h⟩;refine⟨x,ag,?_⟩;have h1:=List.mem_range.1 ag;have:=hp x;rw[Bool.and_eq_true];refine⟨h,?_⟩;simp only[Bool.and_eq_true,decide_eq_true_eq] at h ⊢;omega
def stateT(n:Nat)(k:Int)(f:Nat->Int)(i:Nat):List Pos:=((List.range i).filter λ(j:Nat)=>decide (f j<=k) && !nk n k f j).map λ(j:Nat)=>Pos.mk (j:Int) (f j)
theorem agy{n:Nat}{k:Int}{f:Nat->Int}{i:Nat}{l:List Pos}(h:l=stateT n k f i)(bD:f i>k):l=stateT n k f (i+1):=by
 rw[h];unfold stateT;rw[List.range_succ,List.filter_append,List.filter_cons_of_neg (by simp;omega)];simp
theorem agz{n:Nat}{k:Int}{f:Nat->Int}{i:Nat}{l:List Pos}(h:l=stateT n k f i)(bD:true=nk n k f i):l=stateT n k f (i+1):=by
 rw[h];unfold stateT;rw[List.range_succ,List.filter_append,List.filter_cons_of_neg (by simp[<-bD])];simp
theorem agA{n:Nat}{k:Int}{f:Nat->Int}{i:Nat}{l:List Pos}(h:l=stateT n k f i)(bD:¬ f i>k)(bl:false=nk n k f i){x:Int}(ag:x=f i):l++[Pos.mk (i:Int) x]=stateT n k f (i+1):=by
 rw[h,ag];unfold stateT;rw[List.range_succ,List.filter_append,List.filter_cons_of_pos (by simp[<-bl];omega)];simp
theorem agB(n:Nat)(k:Int)(f:Nat->Int)(i:Nat):(stateT n k f i).length<=i:=by
 unfold stateT;rw[List.length_map];exact Nat.le_trans (List.length_filter_le _ _) dh
theorem agC(n:Nat)(k:Int)(f:Nat->Int):(fM n k f).length<=n:=agB n k f n
def rV(n:Nat)(k:Int)(q:List Int)(s:List Pos)(r:Int)(i:Nat)(x:Nat):Int:=if x<=i then fH k q (dX n k s) r x else dX n k s x
theorem agD{n:Nat}{k:Int}{q:List Int}{s:List Pos}{r x:Int}(ag:(gq n (dX n k s))[0]?=some x):(gq n (dX n k s)).set 0 (min (x+1) (k+1))=gq n (rV n k q s r 0):=by
 obtain⟨wA,hP⟩:=o6 ag;refine II hP ?_ λj bo dL=>?_
 . rw[wA];unfold rV;rw[if_pos (Nat.le_refl _)];rfl
 . unfold rV;rw[if_neg aa]
theorem VT{n:Nat}{k:Int}{q:List Int}{s:List Pos}{r:Int}{i:Nat}(ar:i+1<n+1){a b c t:Int}(ay:(gq n (dX n k s))[i+1]?=some a)(ab:(gq n (rV n k q s r i))[i]?=some b)(al:(gq n (dX n k s))[i]?=some c)(a_:t=c+if q[i]?=some r then 0 else 1):
 (gq n (rV n k q s r i)).set (i+1) (min (min (min (a+1) (b+1)) t) (k+1))=gq n (rV n k q s r (i+1)):=by
 obtain⟨agE,_⟩:=o6 ay;obtain⟨agF,_⟩:=o6 ab;obtain⟨agG,_⟩:=o6 al;refine II ar ?_ λj bo dL=>?_
 . have e:b=fH k q (dX n k s) r i:=(by rw[agF];unfold rV;rw[if_pos (Nat.le_refl _)]);unfold rV;rw[if_pos (Nat.le_refl _)];show _=min (min (min (dX n k s (i+1)+1) (fH k q (dX n k s) r i+1)) (dX n k s i+if q[i]?=some r then 0 else 1)) (k+1);rw[<-e,<-agE,a_,agG]
 . unfold rV;by_cases h:j<=i
   . rw[if_pos h,if_pos aa]
   . rw[if_neg h,if_neg aa]
theorem agH{n:Nat}{k:Int}{q:List Int}{s:List Pos}{r:Int}{i:Nat}{l:List Int}(h:l=gq n (rV n k q s r i))(ar:n<=i):l=gq n (fH k q (dX n k s) r):=by
 rw[h];refine E9 λj bo=>?_
 unfold rV;rw[if_pos aa]
theorem Nh{k:Int}(hk:0<=k){q:List Int}{f:Nat->Int}{r:Int}(h:∀i,0<=f i/\f i<=k+1):∀i,0<=fH k q f r i/\fH k q f r i<=k+1
 | 0=>by have:=h 0;unfold fH;omega
 | i+1=>by
  have h1:=h (i+1);have ah:=h i;have aB:=Nh (q:=q) (r:=r) hk h i
  unfold fH;split<;>omega
end Go.ak
namespace Go.ak
open Go.aG
theorem agI{n:Nat}{f:Nat->Int}{j:Nat}{i:Int}(ab:true=q8 n f j i)(bK:0<=i)(aR:i<(n:Int)):true=q8 n f j (i+1):=by
 have:=VR (c:=(decide (f i.toNat<f j) && decide (max (i-(j:Int)) ((j:Int)-i)<=f j-f i.toNat))) ab bK aR rfl;rw[Bool.true_or] at this;exact this
theorem VU{n:Nat}{f:Nat->Int}{j:Nat}{i x:Int}{b:Bool}(ab:false=q8 n f j i)(bK:0<=i)(aR:i<(n:Int))(ag:x=f i.toNat)(al:(b=true/\x<f j/\max (i-(j:Int)) ((j:Int)-i)<=f j-x)\/(b=false/\¬ (x<f j/\max (i-(j:Int)) ((j:Int)-i)<=f j-x))):b=q8 n f j (i+1):=by
 have:=VR (c:=b) ab bK aR (by
  rw[<-ag]
  rcases al with ⟨h,h1,ah⟩|⟨h,h1⟩
  . rw[h,decide_eq_true h1,decide_eq_true ah];rfl
  . rw[h]
    by_cases ah:x<f j
    . rw[decide_eq_true ah,decide_eq_false (λaB=>h1 ⟨ah,aB⟩)];rfl
    . rw[decide_eq_false ah];rfl)
 rw[Bool.false_or] at this;exact this
theorem VV{n:Nat}{k:Int}{q:List Int}{r:Int}(hk:0<=k)(s:List Pos)(i x:Nat):0<=rV n k q s r i x/\rV n k q s r i x<=k+1:=by
 unfold rV;split
 . exact Nh hk (xL hk s) x
 . exact xL hk s x
theorem agJ{α:Type}{l:List α}{b:Bool}(h:b=((l.length:Int)==0)):b=l.isEmpty:=by
 rw[h];cases l<;>simp
 omega
end Go.ak
namespace Go.ak
open Go.aG
theorem agK{n:Nat}{f:Nat->Int}{j:Nat}{i x y:Int}{b:Bool}(ab:false=q8 n f j i)(bK:0<=i)(aR:i<(n:Int))(ag:x=f i.toNat)(aE:y=f j)(bl:x<y)(al:b=decide (max (i-(j:Int)) ((j:Int)-i)<=y-x)):b=q8 n f j (i+1):=by
 refine VU ab bK aR ag ?_;subst aE
 cases b with
 | true=>exact .inl ⟨rfl,bl,of_decide_eq_true al.symm⟩
 | false=>exact .inr ⟨rfl,λh=>(of_decide_eq_false al.symm) h.2⟩
theorem agL{n:Nat}{f:Nat->Int}{j:Nat}{i x y:Int}(ab:false=q8 n f j i)(bK:0<=i)(aR:i<(n:Int))(ag:x=f i.toNat)(aE:y=f j)(bl:¬ x<y):false=q8 n f j (i+1):=
 VU ab bK aR ag (.inr ⟨rfl,λh=>bl (aE▸h.1)⟩)
end Go.ak
namespace Go.ak
open Go.aG
def ve(q:List Int)(d:Int)(w:aj):Bool:=decide (vd q (dZ w)=d)
structure hb where
 n:Nat
 x:List aj×List cd
 word:aj
def hb.p(z:hb):List Int:=dZ z.word
def CU(q:List Int)(d:Int)(z:hb):List aj:=(z.x.1.map (z.word++·)).filter (ve q d)
def mL(q:List Int)(d:Int)(S:List hb):List aj:=S.reverse.flatMap (CU q d)
theorem IL{c:Nat}(al:kN c)(w:aj)(hw:ix w):dZ (w++en c)=dZ w++[(c:Int)]:=by
 obtain⟨h1,ah⟩:=HE w hw
 have key:∀(rs:List Nat),(∀d∈rs,kN d)->hg (sj rs++en c)=rs++[c]:=by
  intro rs h
  have:sj rs++en c=sj (rs++[c]):=by
   clear h
   induction rs with
   | nil=>simp[sj]
   | cons a rs cc=>rw[adZ,List.append_assoc,cc];rfl
  rw[this]
  exact SG _ λd hd=>by
   rcases List.mem_append.1 hd with hd|hd
   . exact h d hd
   . simp only[List.mem_singleton] at hd;subst hd;exact al
 have:=key (hg w) ah;rw[h1] at this;unfold dZ;rw[this,List.map_append];rfl
theorem Ni{c:Nat}(al:kN c){w:aj}(hw:ix w):ix (w++en c):=by
 unfold ix;have h:=IL al w hw;intro hm;have:(65533:Int)∈dZ (w++en c):=List.mem_map.2 ⟨65533,hm,rfl⟩
 rw[h] at this;rcases List.mem_append.1 this with h1|h1
 . obtain⟨a,ay,he⟩:=List.mem_map.1 h1;have:a=65533:=by omega
   subst this;exact hw ay
 . simp only[List.mem_singleton] at h1;have:=al.2.2;omega
theorem agM:∀(t:aj),ix t->∀(w:aj),ix w->∃u,dZ (w++t)=dZ w++u/\ix (w++t):=by
 intro t a_;refine LU (p:=λt=>∀(w:aj),ix w->∃u,dZ (w++t)=dZ w++u/\ix (w++t)) ?_ ?_ t a_
 . intro w hw;exact⟨[],by simp,by simpa using hw⟩
 . intro c t al _ cc w hw;obtain⟨u,h1,ah⟩:=cc (w++en c) (Ni al hw);rw[IL al w hw] at h1;rw[List.append_assoc] at h1 ah;exact⟨(c:Int)::u,by rw[h1];simp,ah⟩
theorem agN{q:List Int}{d:Int}(hd:0<=d){w:aj}(hw:ix w)(h:ft q d (dZ w)=[]){l:List aj}(bl:∀t∈l,ix t):(l.map (w++·)).filter (ve q d)=[]:=by
 rw[List.filter_eq_nil_iff];intro x ag;obtain⟨t,a_,rfl⟩:=List.mem_map.1 ag;obtain⟨u,h1,_⟩:=agM t (bl t a_) w hw;have:=agl (agk hd h) u;unfold ve;rw[h1];simp only[decide_eq_true_eq];omega
def y8(q:List Int)(d:Int)(z:hb)(g:Nat×List aj):List aj:=(g.2.map ((z.word++en g.1)++·)).filter (ve q d)
theorem agO{q:List Int}{d:Int}{z:hb}(h:gv z.x.1):CU q d z=(if jX z.x.1=true/\ve q d z.word=true then[z.word] else[])++(ha (fG z.x.1)).flatMap (y8 q d z):=by
 unfold CU;rw[Td h,List.filter_append];congr 1
 . by_cases bD:jX z.x.1=true
   . rw[if_pos bD];by_cases aR:ve q d z.word=true
     . rw[if_pos ⟨bD,aR⟩,List.filter_cons_of_pos aR];rfl
     . rw[if_neg (λh=>aR h.2),List.filter_cons_of_neg aR];rfl
   . rw[if_neg bD,if_neg (λh=>bD h.1)];rfl
 . unfold s9;rw[List.drop_zero,List.filter_flatMap];congr 1
   funext g;unfold y8;congr 1
   exact List.map_congr_left λt _=>by simp
def mM(q:List Int)(d:Int)(z:hb)(k:Nat):List aj:=((ha (fG z.x.1)).drop k).flatMap (y8 q d z)
theorem agP{q:List Int}{d:Int}{z:hb}:mM q d z 0=(ha (fG z.x.1)).flatMap (y8 q d z):=by unfold mM;rw[List.drop_zero]
theorem agQ{q:List Int}{d:Int}{z:hb}{k:Nat}(h:(ha (fG z.x.1)).length<=k):mM q d z k=[]:=by unfold mM;rw[List.drop_of_length_le h];rfl
theorem IM{q:List Int}{d:Int}{z:hb}{k:Nat}{g:Nat×List aj}(h:(ha (fG z.x.1))[k]?=some g):mM q d z k=y8 q d z g++mM q d z (k+1):=by
 unfold mM;rw[wm h,List.flatMap_cons]
theorem VW{q:List Int}{d:Int}{S:List hb}{z:hb}:mL q d (S++[z])=CU q d z++mL q d S:=by
 unfold mL;rw[List.reverse_append];simp
theorem agR{q:List Int}{d:Int}{S:List hb}{z y:hb}{g:Nat×List aj}(aE:y.x.1=g.2)(hw:y.word=z.word++en g.1):mL q d (S++[y])=y8 q d z g++mL q d S:=by
 rw[VW];congr 1
 unfold CU y8;rw[aE,hw]
def uf(l:List aj):Nat:=1+(l.map λt=>(hg t).length).sum
def q9(S:List hb):Nat:=(S.map λz=>uf z.x.1).sum
theorem VX(S:List hb)(z:hb):q9 (S++[z])=q9 S+uf z.x.1:=by simp[q9]
theorem agS(a b:List aj):((a++b).map λt=>(hg t).length).sum=(a.map λt=>(hg t).length).sum+(b.map λt=>(hg t).length).sum:=by simp
theorem agT{c:Nat}(al:kN c)(l:List aj):((l.map (en c++·)).map λt=>(hg t).length).sum=l.length+(l.map λt=>(hg t).length).sum:=by
 induction l with
 | nil=>rfl
 | cons a l cc =>
  simp only[List.map_cons,List.sum_cons,List.length_cons];rw[cc,wb al];simp only[List.length_cons];omega
def wB(l:List (Nat×List aj)):Nat:=(l.map λg=>uf g.2).sum
theorem VY:∀(n:Nat) (l:List aj),l.length<=n->gv l->(∀s∈l,s≠[])->wB (ha l)<=(l.map λt=>(hg t).length).sum
 | _,[],_,_,_=>by simp[Ar,wB]
 | 0,_::_,h,_,_=>by simp at h
 | n+1,s::r,h,aV,aR=>by
  have aT:=aR s dh
  have bD:=aV.oY s dh
  obtain⟨Em,qX,_⟩:=bD.split aT
  have al:kN (gf s):=Em
  have hp:dF s=en (gf s):=(yI aT ((yJ aT).1 bD).1).2.symm
  have agU:=Ez (dF s) (s::r)
  have IN:=congrArg (λl:List aj=>(l.map λt=>(hg t).length).sum) agU
  have agV:(((eZ (dF s) (s::r)).map (dF s++·)++l4 (dF s) (s::r)).map λt=>(hg t).length).sum=((s::r).map λt=>(hg t).length).sum:=IN
  replace IN:=agV
  rw[agS,hp,agT al] at IN
  have hm:=Aq s r
  have hlen:1<=(eZ (dF s) (s::r)).length:=by
   unfold eZ
   rw[List.takeWhile_cons,if_pos (Ap s)];simp
  have cc:=VY n (l4 (dF s) (s::r)) (by simp only[List.length_cons] at h;omega) (aV.more _) λt a_=>aR t ((List.dropWhile_sublist _).subset a_)
  rw[Cj]
  unfold wB at cc ⊢
  rw[hp] at cc hlen ⊢
  simp only[List.map_cons,List.sum_cons]
  unfold uf at cc ⊢
  simp only[List.map_cons,List.sum_cons] at IN
  omega
theorem agW{l:List aj}(h:gv l):wB (ha (fG l))+1<=uf l:=by
 have hd:=u2 h;have:=VY _ _ (Nat.le_refl _) hd.1 hd.2
 have aT:((fG l).map λt=>(hg t).length).sum=(l.map λt=>(hg t).length).sum:=by
  cases l with
  | nil=>rfl
  | cons a r=>cases a with
   | nil=>simp[fG,xo]
   | cons b a=>rfl
 unfold uf;omega
def q_(l:List (Nat×List aj))(k:Nat):Nat:=wB (l.drop k)
theorem IP{l:List (Nat×List aj)}{k:Nat}{g:Nat×List aj}(h:l[k]?=some g):q_ l k=uf g.2+q_ l (k+1):=by
 unfold q_ wB;rw[wm h];simp
theorem agX(l:List (Nat×List aj)):q_ l 0=wB l:=by unfold q_;rw[List.drop_zero]
theorem E_(l:List aj):1<=uf l:=by unfold uf;omega
def p7(words:List aj)(q:List Int)(d:Int):List aj:=words.filter (ve q d)
theorem VZ{q:List Int}{d:Int}{words:List aj}{es:List cd}{n:Nat}:mL q d [⟨n,(words,es),[]⟩]=p7 words q d:=by
 unfold mL CU p7;simp
theorem agY{q:List Int}{d:Int}(hd:0<=d){w:aj}{D:Int}(j0:D=dX q.length d (ft q d (dZ w)) q.length):(D<=d/\D=d)↔ve q d w=true:=by
 rw[agm hd] at j0;unfold ve;rw[decide_eq_true_eq];omega
end Go.ak
set_option linter.unusedSectionVars false
namespace Go.aG
open Go
theorem Acc.cut{P:Program}{α:Type}{enc:α->List Value}{e:TypeId}{sz g:Nat}{w:World}{v:Value}{l:List α}{t:TypeId}{by_:Nat}{fT:Bool}{z:List Value}(h:Acc enc e sz w g v l)(a_:P.underlying t=some (.slice e))(he:ey P e=some (fT,sz,by_,z))(dN:∀x,(enc x).length=sz)
 {k:IntKind} {n:Int} (j:Nat) (aR:n=(j:Int)) (bo:j<=l.length):∃gT,(∀w,(Instr.sliceAt t v none (some (.int k n)) none).run P w=.ok gT w)/\Acc enc e sz w g gT (l.take j):=by
 rcases h with ⟨h1,ah,aB⟩|⟨b,cap,cur,bK,h1,ah,aB,bH,c_,e1⟩
 . subst ah;have E':j=0:=(by simpa using bo);subst E';refine⟨.slice none 0 0,λw=>?_,.inl ⟨rfl,rfl,aB⟩⟩;subst h1;simp[Instr.sliceAt,Instr.slice,Instr.sliceBounds,run_underlying a_,run_sizeOf he,tI (P:=P) (k:=k) _ aR (Nat.le_refl 0)]
 . refine⟨.slice (some ⟨b,0,none⟩) j cap,λw=>?_,.inr ⟨b,cap,cur,bK,by rw[List.length_take,Nat.min_eq_left bo],ah,by rw[List.length_take];omega,bH,c_,?_⟩⟩
   . subst h1;have ab:=λc w=>tI (P:=P) (k:=k) c aR (Nat.le_trans bo aB) w
     by_cases al:cap=0
     . subst al;have E':j=0:=(by omega);subst E';simp[Instr.sliceAt,Instr.slice,Instr.sliceBounds,run_underlying a_,run_sizeOf he,ab]
     . simp[Instr.sliceAt,Instr.slice,Instr.sliceBounds,run_underlying a_,run_sizeOf he,ab,al,add_lit]
   . rw[List.length_take,Nat.min_eq_left bo,<-RI dN,<-e1,List.take_take,Nat.min_eq_left (Nat.mul_le_mul_right _ bo)]
theorem hy.AT{gt:TypeId}{w ao:World}{c7 ar:Nat}{M:Nat->Prop}{v:Value}{N:List cy}(h:hy gt w c7 ar v N)(hm:Mod M w ao)(hd:∀b,c7<=b->b<ar->¬ M b):hy gt ao c7 ar v N:=by
 rcases h with h|⟨b,gH,bn,h1,ah,aB,bH,c_⟩
 . exact .inl h
 . exact .inr ⟨b,gH,bn,h1,ah,⟨aB.1,aB.2.1,aB.2.2.keep hm (hd b aB.1 aB.2.1)⟩,bH.keep hm λb ab=>hd b ab.1 ab.2,c_.keep hm λb ab=>hd b ab.1 ab.2⟩
structure V0(P:Program){b9:Type}(kO:FuncId)(first cap:List Value)(A:b9->dr (λ_=>False))(ok:b9->aj->Prop)(f:b9->aj->b9×Bool):Prop where
 cl:b8 P kO=true
 call:∀s F w x,(A s).p F w->(∀b,F b->b<w.heap.size)->ok s x->Calls P kO (first++[aD x]++cap).toArray w (an λaC ao=>aC=.bool (f s x).2/\Mod F w ao/\∃F',(A (f s x).1).p F' ao/\∀b,F' b->b<ao.heap.size/\(F b\/w.heap.size<=b))
section
variable {R bV:Nat->Prop} {w0 w ao:World} {L:List (dr R)} {i j:Nat} {α:Type} {enc:α->List Value}
theorem au.Fa{vs:List (Value×List α)}{v:Value}{l:List α}(h:au R bV w0 w L)(ar:L[i]?=some (fc enc vs))(hm:(v,l)∈vs):aq enc w (dq 0 w.heap.size) v l:=by
 obtain⟨k,hk,he⟩:=List.getElem_of_mem hm;exact h.cj ar (List.getElem?_eq_some_iff.2 ⟨hk,he⟩)
theorem IQ{V Fb:List (Value×List α)}{F:Nat->Prop}(h:(bh (R:=R) [fc enc V,fc enc Fb]).p F w):(fc (R:=R) enc (V++Fb)).p F w:=by
 obtain⟨fi,h1,ah,_⟩:=h;intro x ag;rcases List.mem_append.1 ag with ag|ag
 . exact(h1 0 _ rfl x ag).mono λb ab=>ab.imp (λh=>(ah 0 b h).1.1) id
 . exact(h1 1 _ rfl x ag).mono λb ab=>ab.imp (λh=>(ah 1 b h).1.1) id
end
structure hA where
 node:Int
 st:cL
 word:aj
def q'(x:hA):List Value:=[.int .i64 x.node,x.st.val,aD x.word]
theorem AU(x:hA):(q' x).length=3:=rfl
theorem IS(x:hA):(q' x).all (·.oneCell')=true:=rfl
open ak
structure nM(q:List Int)(d:Int)(s:c9)(V:List (Value×List Pos))(p:hA)(z:hb):Prop where
 node:p.node=(z.n:Int)
 word:p.word=z.word
 st:(p.st.val,ft q d (dZ z.word))∈V
 agZ:nodeAt (fV s) (z.n:Int)=(jX z.x.1,z.x.2)
 we:oZ s z.x
 fQ:gv z.x.1
 oY:ix z.word
 lt:z.n<=1000000
 deep:∃e,Deep e z.x.1/\z.word.length+4*e<=48
theorem nM.mono{q:List Int}{d:Int}{s:c9}{V Fb:List (Value×List Pos)}{p:hA}{z:hb}(h:nM q d s V p z)(Ai:∀x∈V,x∈Fb):nM q d s Fb p z:={ h with st:=Ai _ h.st }
theorem nM.start{q:List Int}{d:Int}(hd:0<=d){s:c9}{words:List aj}{es:List cd}{sh:cL}{v:Value}(cK:v=sh.val)(p8:nodeAt (fV s) 0=(jX words,es))(al:oZ s (words,es))(aV:gv words)(It:Deep 12 words):
 c3 (nM q d s [(v,[⟨0,0⟩])]) [hA.mk 0 sh []] [⟨0,(words,es),[]⟩]:=
 .cons ⟨rfl,rfl,by rw[cK,show dZ ([]:aj)=[] from rfl,agh hd];simp,p8,al,aV,by simp[ix,xo],by simp,12,It,by simp⟩ .nil
theorem c3.snoc{α β:Type}{R:α->β->Prop}{l:List α}{m:List β}{a:α}{b:β}(h:c3 R l m)(mI:R a b):c3 R (l++[a]) (m++[b]):=by
 induction h with
 | nil=>exact .cons mI .nil
 | cons x _ cc=>exact .cons x cc
theorem c3.pop{α β:Type}{R:α->β->Prop}:∀{l:List α} {m:List β} {n:Nat} {a:α},c3 R l m->l[n]?=some a->n+1=l.length->∃m1 b,m=m1++[b]/\c3 R (l.take n) m1/\R a b
 | _,_,n,a,.nil,ag,_=>by simp at ag
 | _,_,0,a,.cons (l:=l) (m:=m) mI h,ag,aR=>by
  have:l=[]:=List.eq_nil_of_length_eq_zero (by simp only[List.length_cons] at aR;omega)
  subst this
  cases h
  simp only[List.getElem?_cons_zero,Option.some.injEq] at ag
  subst ag
  exact⟨[],_,rfl,.nil,mI⟩
 | _,_,n+1,a,.cons (l:=l) (m:=m) mI h,ag,aR=>by
  obtain⟨m1,b,h1,ah,aB⟩:=c3.pop h uU (by simp only[List.length_cons] at aR;omega)
  exact⟨_::m1,b,by rw[h1];rfl,.cons mI ah,aB⟩
theorem nM.pop{q:List Int}{d:Int}{s:c9}{V:List (Value×List Pos)}{hr:List hA}{nA:List hb}{n:Nat}{x:hA}(h:c3 (nM q d s V) hr nA)(ag:hr[n]?=some x)(aR:n+1=hr.length):
 ∃mu z sh,nA=mu++[z]/\x=hA.mk (z.n:Int) sh z.word/\c3 (nM q d s V) (hr.take n) mu/\(sh.val,ft q d (dZ z.word))∈V/\nodeAt (fV s) (z.n:Int)=(jX z.x.1,z.x.2)/\oZ s z.x/\gv z.x.1/\ix z.word/\z.n<=1000000/\∃e,Deep e z.x.1/\z.word.length+4*e<=48:=by
 obtain⟨mu,z,h1,ah,aB⟩:=c3.pop h ag aR;refine⟨mu,z,x.st,h1,?_,ah,aB.st,aB.agZ,aB.we,aB.fQ,aB.oY,aB.lt,aB.deep⟩;rw[<-aB.node,<-aB.word]
theorem nM.push{q:List Int}{d:Int}(hd:0<=d){s:c9}{V:List (Value×List Pos)}{hr:List hA}{nA:List hb}(h:c3 (nM q d s V) hr nA)(dN:s.length<=1000000)(l':∀y∈s,oZ s y/\gv y.1/\Deep 12 y.1){w:aj}(hw:ix w){g:Nat×List aj}{j:Nat}{es:List cd}{r:Int}{sh:cL}{L:List Pos}{wd:aj}{vf:Nat}
 (lN:r=(g.1:Int)) (bo:s[j]?=some (g.2,es)) (aV:kN g.1) (kZ:L=fM (q.length+1) d (fH d q (dX q.length d (ft q d (dZ w))) r)) (Nj:wd=w++en g.1) (th:Deep vf g.2) (hlen:w.length+4*(vf+1)<=48) {to:Int} (qA:to=(j:Int)) :
 c3 (nM q d s (V++[(sh.val,L)])) (hr++[hA.mk to sh wd]) (nA++[⟨j,(g.2,es),w++en g.1⟩]):=by
 have aR:=l' _ (List.mem_of_getElem? bo);have bH:=xx g.1;refine c3.snoc (h.imp λa b mI=>mI.mono λx ag=>by simp[ag]) ⟨qA,Nj,?_,AE bo,aR.1,aR.2.1,Ni aV hw,by have:=(List.getElem?_eq_some_iff.1 bo).1;simp only;omega,vf,th,by simp only[List.length_append];omega⟩;rw[kZ,lN,VO hd,<-IL aV w hw];simp
theorem CV:∀{hr:List hA} {nA:List hb} {R:hA->hb->Prop},c3 R hr nA->hr.length<=q9 nA
 | _,_,_,.nil=>by simp
 | _,_,_,.cons (b:=b) (m:=m) _ h=>by
  have:=CV h
  have h1:=E_ b.x.1
  simp only[List.length_cons,q9,List.map_cons,List.sum_cons] at this ⊢
  omega
end Go.aG
namespace Go.ak
open Go.aG
section
variable {b9:Type} {f:b9->aj->b9×Bool} {ok:b9->aj->Prop} {dG ew:b9} {L E T:List aj} {w:aj} {P:Prop} [Decidable P]
theorem Nk(h:fq f dG L=fq f ew (((if P then[w] else[])++E)++T))(hp:¬ P):fq f dG L=fq f ew (E++T):=by rw[if_neg hp] at h;exact h
theorem Nl(h:l7 ok f ew (((if P then[w] else[])++E)++T))(hp:¬ P):l7 ok f ew (E++T):=by rw[if_neg hp] at h;exact h
theorem ag0(h:fq f dG L=fq f ew (((if P then[w] else[])++E)++T))(hp:P)(aE:(f ew w).2=true):fq f dG L=fq f (f ew w).1 (E++T):=by
 rw[if_pos hp,List.append_assoc] at h;rw[h];exact Mg aE
theorem V1(h:fq f dG L=fq f ew (((if P then[w] else[])++E)++T))(hp:P)(aE:(f ew w).2=false):fq f dG L=((f ew w).1,false):=by
 rw[if_pos hp,List.append_assoc] at h;rw[h];exact u4 aE
theorem ag1(h:l7 ok f ew (((if P then[w] else[])++E)++T))(hp:P):ok ew w:=by
 rw[if_pos hp,List.append_assoc] at h;exact h.1
theorem ag2(h:l7 ok f ew (((if P then[w] else[])++E)++T))(hp:P)(aE:(f ew w).2=true):l7 ok f (f ew w).1 (E++T):=by
 rw[if_pos hp,List.append_assoc] at h;exact h.2 aE
end
theorem Fc{D d:Int}(h:decide (D<=d)=true)(ah:(if D>d then 0 else D)=d):D<=d/\D=d:=by
 have:=of_decide_eq_true h;rw[if_neg aa] at ah;exact⟨this,ah⟩
theorem CW{D d:Int}(ah:¬ (if D>d then 0 else D)=d)(al:D<=d/\D=d):False:=by rw[if_neg aa] at ah;exact ah al.2
theorem CX{D d:Int}(h:decide (D<=d)=false)(al:D<=d/\D=d):False:=(of_decide_eq_false h) al.1
theorem ag3{s:c9}{q:List Int}{d:Int}(hd:0<=d){z:hb}{g:Nat×List aj}{j:Nat}{es:List cd}{r:Int}{L:List Pos}(bD:ix z.word)(lN:r=(g.1:Int))(aV:kN g.1)(bo:s[j]?=some (g.2,es))(l':∀y∈s,oZ s y/\gv y.1/\Deep 12 y.1)
 (kZ:L=fM (q.length+1) d (fH d q (dX q.length d (ft q d (dZ z.word))) r)) (ag4:L.isEmpty=true):y8 q d z g=[]:=by
 have aR:=l' _ (List.mem_of_getElem? bo);rw[lN,VO hd,<-IL aV z.word bD] at kZ;have he:L=[]:=List.isEmpty_iff.1 ag4;rw[he] at kZ;exact agN hd (Ni aV bD) kZ.symm aR.2.1.oY
end Go.ak
namespace Go.ak
open Go.aG
theorem V2{q:List Int}{d:Int}{z:hb}{i:Int}(h:i<0):mM q d z (i+1).toNat=mM q d z 0:=by rw[show(i+1).toNat=0 from by omega]
theorem Nn{l:List (Nat×List aj)}{i:Int}(h:i<0):q_ l (i+1).toNat=wB l:=by rw[show(i+1).toNat=0 from by omega,agX]
theorem V3{q:List Int}{d:Int}{z:hb}{i:Int}{X:List aj}(h:0<=i)(ag:mM q d z i.toNat=X++mM q d z (i.toNat+1)):mM q d z (i-1+1).toNat=X++mM q d z (i+1).toNat:=by
 rw[show(i-1+1).toNat=i.toNat from by omega,show(i+1).toNat=i.toNat+1 from by omega];exact ag
theorem V4{l:List (Nat×List aj)}{i:Int}{x:Nat}(h:0<=i)(ag:q_ l i.toNat=x+q_ l (i.toNat+1)):q_ l (i-1+1).toNat=x+q_ l (i+1).toNat:=by
 rw[show(i-1+1).toNat=i.toNat from by omega,show(i+1).toNat=i.toNat+1 from by omega];exact ag
theorem ag5{s:c9}{x:List aj×List cd}(al:oZ s x):(ha (fG x.1)).length=x.2.length:=(c3.get al).1
theorem V5{q:List Int}{d:Int}{s:c9}{V:List (Value×List Pos)}{hr:List hA}{nA:List hb}(h:c3 (nM q d s V) hr nA)(hp:hr.length=0):nA=[]:=by
 have:=(c3.get h).1;exact List.eq_nil_of_length_eq_zero aa
end Go.ak
namespace Go.ak
open Go.aG
theorem IT(l:List (Nat×List aj))(k:Nat):q_ l k<=wB l:=by
 unfold q_ wB
 conv=>rhs;rw[<-List.take_append_drop k l]
 rw[List.map_append,List.sum_append];omega
end Go.ak
namespace Go.ak
open Go.aG
structure b4 where
 cp:Int
 word:aj
deriving DecidableEq
def eK(x:b4):List Value:=[.int .i64 x.cp,aD x.word]
theorem oD(x:b4):(eK x).length=2:=rfl
theorem wC(x:b4):(eK x).all (·.oneCell')=true:=rfl
structure b4.Ok(x:b4):Prop where
 cp:b6 x.cp
 word:x.word.length<=maxLen
def No(a b:b4):Int:=oz [po a.cp b.cp,Lib.compareBytes a.word b.word]
def oe(a b:b4):Bool:=decide (No a b<0)
def pA(g:List cy)(s:aj)(k:Int):Bool:=(!g.isEmpty) && decide (0<=k/\k<=4) && asked s
def jk(g:List cy)(s:aj)(k:Int):List Int:=if pA g s k=true then dZ s else[]
theorem V6{s:aj}{k:Int}:pA [] s k=false:=rfl
theorem V7{g:List cy}{s:aj}{k:Int}(h:k<0\/k>4):pA g s k=false:=by unfold pA;rw[decide_eq_false aa];simp
theorem V8{g:List cy}{s:aj}{k:Int}(h:asked s=false):pA g s k=false:=by unfold pA;rw[h];simp
theorem IU{g:List cy}{s:aj}{k:Int}(aV:g≠[])(hk:0<=k/\k<=4)(h:asked s=true):pA g s k=true:=by
 unfold pA;rw[h,decide_eq_true hk];cases g<;>simp at *
theorem AV{g:List cy}{s:aj}{k:Int}:pA g s k=true↔g≠[]/\(0<=k/\k<=4)/\asked s=true:=by
 constructor
 . intro h;unfold pA at h;simp only[Bool.and_eq_true,decide_eq_true_eq,Bool.not_eq_true',List.isEmpty_eq_false_iff] at h;exact⟨h.1.1,h.1.2,h.2⟩
 . rintro⟨h1,ah,aB⟩;exact IU h1 ah aB
theorem IV{s:aj}(h:asked s=true):jW s=true:=by
 unfold asked at h;simp only[Bool.and_eq_true,decide_eq_true_eq] at h;have:=h.1;unfold iL at this;unfold jW;split at this
 . omega
 . exact decide_eq_true bk
theorem ag6{g:List cy}{s:aj}{k:Int}(h:pA g s k=false):([]:List Int)=jk g s k:=by unfold jk;rw[h];rfl
theorem ag7{g:List cy}{s:aj}{k:Int}(h:pA g s k=true):jH s=jk g s k:=by
 unfold jk;rw[if_pos h,jH,if_pos (IV (AV.1 h).2.2)]
theorem ag8{g:List cy}{s:aj}{k:Int}(h:pA g s k=true):jk g s k=dZ s:=by unfold jk;rw[if_pos h]
theorem ag9{s:aj}(h:asked s=true):(dZ s).length<=16:=by
 have bD:=IV h;unfold asked at h;simp only[Bool.and_eq_true,decide_eq_true_eq] at h;unfold iL at h;unfold jW at bD;rw[if_neg (of_decide_eq_true bD)] at h;unfold dZ;rw[List.length_map];omega
theorem ag_(g:List cy)(s:aj)(k:Int):(jk g s k).length<=16:=by
 unfold jk;split
 . exact ag9 (AV.1 bk).2.2
 . simp
theorem V9(words:List aj)(q:List Int)(d:Int):(p7 words q d).length<=words.length:=List.length_filter_le _ _
theorem ag'{words:List aj}(hd:Deep 12 words)(bl:words.length<=1000):uf words<=500000:=by
 have:(words.map λt=>(hg t).length).sum<=words.length*12:=by
  clear bl
  induction words with
  | nil=>simp
  | cons a l cc =>
   have h1:=hd a dh
   have ah:=cc λt a_=>hd t (by simp[a_])
   simp only[List.map_cons,List.sum_cons,List.length_cons]
   omega
 unfold uf;omega
def mv(first:Bool)(after:b4)(batch d:Int)(s:List b4×Bool)(w:aj):(List b4×Bool)×Bool:=
 if first=false/\oe after ⟨d,w⟩=false then(s,!s.2)
 else if (s.1.length:Int)=batch then((s.1,true),false)
 else((s.1++[⟨d,w⟩],s.2),!s.2)
def Np(words:List aj)(q:List Int)(first:Bool)(after:b4)(batch:Int)(d:Nat):List b4×Bool->List b4×Bool:=λs=>(fq (mv first after batch d) s (p7 words q d)).1
def iD(words:List aj)(q:List Int)(first:Bool)(after:b4)(batch:Int):Nat->List b4×Bool
 | 0=>([],false)
 | d+1=>let s:=iD words q first after batch d;if s.2=true then s else Np words q first after batch d s
def pB(g:List cy)(words:List aj)(s:aj)(k:Int)(first:Bool)(after:b4)(batch:Int):List b4×Bool:=
 if pA g s k=true then((iD words (dZ s) first after (max batch 0) (k.toNat+1)).1,!(iD words (dZ s) first after (max batch 0) (k.toNat+1)).2) else([],true)
end Go.ak
namespace Go.aG
open Go Go.ak
theorem aha{F bV:Nat->Prop}{w0 w:World}{R:Nat->Prop}{ar:Nat}(h:∀b,F b->((bV b\/w0.heap.size<=b)/\¬ R b)/\b<w.heap.size)(bs:∀b,bV b->False)(pY:ar<=w0.heap.size){c7:Nat}:∀b,c7<=b->b<ar->¬ F b:=λb _ ah ab=>by
 rcases(h b ab).1.1 with aB|aB
 . exact bs b aB
 . omega
end Go.aG
namespace Go.ak
open Go.aG
theorem V_{g:List cy}{words:List aj}{s:aj}{k batch:Int}{first:Bool}{after:b4}(h:pA g s k=false):pB g words s k first after batch=([],true):=by unfold pB;rw[h];rfl
end Go.ak
namespace Go.ak
open Go.aG
theorem xM{after:b4}{batch d:Int}{s:List b4×Bool}{w:aj}(h:oe after ⟨d,w⟩=false):mv false after batch d s w=(s,!s.2):=by unfold mv;rw[if_pos ⟨rfl,h⟩]
theorem xN{first:Bool}{after:b4}{batch d:Int}{s:List b4×Bool}{w:aj}(h:first=true\/oe after ⟨d,w⟩=true)(ab:(s.1.length:Int)=batch):mv first after batch d s w=((s.1,true),false):=by
 unfold mv;rw[if_neg (by rintro⟨h1,ah⟩;rcases h with h|h<;>simp_all),if_pos ab]
theorem xO{first:Bool}{after:b4}{batch d:Int}{s:List b4×Bool}{w:aj}(h:first=true\/oe after ⟨d,w⟩=true)(ab:¬ (s.1.length:Int)=batch):mv first after batch d s w=((s.1++[⟨d,w⟩],s.2),!s.2):=by
 unfold mv;rw[if_neg (by rintro⟨h1,ah⟩;rcases h with h|h<;>simp_all),if_neg ab]
theorem V'(first:Bool)(after:b4)(batch d:Int)(s:List b4×Bool)(w:aj):(mv first after batch d s w).1.1.length<=s.1.length+1:=by
 unfold mv;split
 . simp
 . split
   . simp
   . simp
theorem Wa(first:Bool)(after:b4)(batch d:Int)(m:Nat):∀(L:List aj) (s:List b4×Bool),s.1.length+L.length<=m->l7 (λ(s:List b4×Bool) (_:aj)=>s.1.length<=m) (mv first after batch d) s L
 | [],s,_=>trivial
 | x::L,s,h=>⟨by simp only[List.length_cons] at h;omega,λ_=>Wa first after batch d m L _ (by
  have:=V' first after batch d s x
  simp only[List.length_cons] at h;omega)⟩
theorem Wb(first:Bool)(after:b4)(batch d:Int):∀(L:List aj) (s:List b4×Bool),(fq (mv first after batch d) s L).1.1.length<=s.1.length+L.length
 | [],s=>by simp[fq]
 | x::L,s=>by
  have h1:=V' first after batch d s x
  have ah:=Wb first after batch d L (mv first after batch d s x).1
  unfold fq
  split
  . simp only[List.length_cons];omega
  . simp only[List.length_cons];omega
theorem Nq(words:List aj)(q:List Int)(first:Bool)(after:b4)(batch:Int):∀d,(iD words q first after batch d).1.length<=d*words.length
 | 0=>by simp[iD]
 | d+1=>by
  have cc:=Nq words q first after batch d
  unfold iD
  simp only
  split
  . rw[Nat.succ_mul];omega
  . have h1:=Wb first after batch d (p7 words q d) (iD words q first after batch d)
    have ah:=V9 words q d
    unfold Np
    rw[Nat.succ_mul];omega
theorem ahb{words:List aj}{q:List Int}{first:Bool}{after:b4}{batch:Int}{d:Nat}(h:false=(iD words q first after batch d).2):(fq (mv first after batch d) (iD words q first after batch d) (p7 words q d)).1=iD words q first after batch (d+1):=by
 conv=>rhs;unfold iD
 simp only;rw[<-h];rfl
theorem Wc{words:List aj}{q:List Int}{first:Bool}{after:b4}{batch:Int}{n:Nat}(h:(iD words q first after batch n).2=true):∀m,iD words q first after batch (n+m)=iD words q first after batch n
 | 0=>rfl
 | m+1=>by
  have cc:=Wc h m
  rw[<-Nat.add_assoc]
  conv=>lhs;unfold iD
  simp only
  rw[cc,if_pos h]
theorem Nr{g:List cy}{words:List aj}{s:aj}{k batch:Int}{first:Bool}{after:b4}(hm:pA g s k=true){n:Nat}(h:(iD words (jk g s k) first after (max batch 0) n).2=true/\(n:Int)<=k+1\/(n:Int)=k+1):
 pB g words s k first after batch=((iD words (jk g s k) first after (max batch 0) n).1,!(iD words (jk g s k) first after (max batch 0) n).2):=by
 have hk:=(AV.1 hm).2.1;unfold pB;rw[if_pos hm,<-ag8 hm];rcases h with ⟨h,aR⟩|h
 . have:=Wc h (k.toNat+1-n);rw[show n+(k.toNat+1-n)=k.toNat+1 from by omega] at this;rw[this]
 . rw[show n=k.toNat+1 from by omega]
theorem Wd{g:List cy}{words:List aj}{s:aj}{k batch:Int}{first:Bool}{after:b4}(hm:pA g s k=true){n:Nat}(h:(iD words (jk g s k) first after (max batch 0) n).2=true/\(n:Int)<=k+1\/(n:Int)=k+1){b:Bool}(ab:(iD words (jk g s k) first after (max batch 0) n).2=b):
 (!b)=(pB g words s k first after batch).2:=by rw[Nr hm h,ab]
theorem ahc{g:List cy}{words:List aj}{s:aj}{k batch:Int}{first:Bool}{after:b4}:(pB g words s k first after batch).1.length<=5*words.length:=by
 unfold pB;split
 . have hk:=(AV.1 bk).2.1;have:=Nq words (dZ s) first after (max batch 0) (k.toNat+1)
   have ah:(k.toNat+1)*words.length<=5*words.length:=Nat.mul_le_mul_right _ aa;simp only;omega
 . simp
end Go.ak
namespace Go.aG
open Go Go.ak
def qB{R:Nat->Prop}(rI e tb:TypeId)(e7 e9:Nat)(s:List b4×Bool):dr R:=nF λv:Value=>bh [aw e7 [v] rI,aP eK e 2 v s.1,aw e9 [.bool s.2] tb]
end Go.aG
namespace Go.ak
open Go.aG
theorem We{α:Type}{p:List α->Prop}(bK:p [])(h1:∀l a,p l->p (l++[a])):∀l,p l:=by
 intro l;rw[<-List.reverse_reverse l];generalize l.reverse=r
 induction r with
 | nil=>exact bK
 | cons a r cc=>rw[List.reverse_cons];exact h1 _ _ cc
def ra(a b:List Int):List (List Int):=(List.range (a.length+1)).map λi=>gq b.length (hU b (a.take i))
theorem Ns(a b:List Int):(ra a b).length=a.length+1:=by simp[ra]
theorem Wf{a b:List Int}{i:Nat}{l:List Int}(h:(ra a b)[i]?=some l):l=gq b.length (hU b (a.take i)):=by
 obtain⟨ar,h1⟩:=List.getElem?_eq_some_iff.1 h;rw[Ns] at ar;unfold ra at h;rw[List.getElem?_map,List.getElem?_range ar] at h;simpa using h.symm
theorem Nt{a b:List Int}{n i:Nat}{l:List Int}(h:((ra a b).take n)[i]?=some l):l=gq b.length (hU b (a.take i))/\i<n:=by
 rw[List.getElem?_take] at h;split at h
 . exact⟨Wf h,by assumption⟩
 . cases h
theorem ahd{a b:List Int}{i:Nat}{l:List Int}(ar:i<=a.length)(bl:l=gq b.length (hU b (a.take i))):(ra a b).take i++[l]=(ra a b).take (i+1):=by
 rw[List.take_add_one];congr 1
 unfold ra;rw[List.getElem?_map,List.getElem?_range aa,bl];rfl
theorem ahe{n k:Nat}{f:Nat->Int}{l:List Int}{d:Int}(h:l=(gq n f).take k)(hk:k<=n)(hd:d=f k):l++[d]=(gq n f).take (k+1):=by
 rw[List.take_add_one,h,hd];congr 1
 unfold gq;rw[List.getElem?_map,List.getElem?_range aa];rfl
theorem ahf{n k:Nat}{f:Nat->Int}{l:List Int}(h:l=(gq n f).take k)(hk:n<k):l=gq n f:=by
 rw[h,List.take_of_length_le (by rw[xK];omega)]
theorem Wg{n k i:Nat}{f:Nat->Int}{x:Int}(h:((gq n f).take k)[i]?=some x):x=f i:=by
 rw[List.getElem?_take] at h;split at h
 . exact(o6 h).1
 . cases h
theorem Wh(q p:List Int):hU q p 0=p.length:=by
 refine We (p:=λp=>hU q p 0=p.length) rfl (λp r cc=>?_) p;rw[IF];unfold nL;rw[cc];simp
theorem CY(q p:List Int)(i:Nat):0<=hU q p i/\hU q p i<=p.length+i:=by
 have h:=VI q p;have h1:=h.pos i;have ah:=IG h i 0;rw[Wh] at ah;constructor<;>omega
theorem ahg{a b:List Int}{i k:Nat}(ar:i=0):(k:Int)=hU b (a.take i) k:=by subst ar;rfl
theorem ahh{a b:List Int}{i k:Nat}(hk:k=0)(ar:i<=a.length):(i:Int)=hU b (a.take i) k:=by subst hk;rw[Wh,List.length_take,Nat.min_eq_left ar]
theorem Wi{a b:List Int}{i k j m:Nat}(bo:j+1=i)(hm:m+1=k){r c x y z t:Int}(a':a[j]?=some r)(al:b[m]?=some c)(ag:x=hU b (a.take j) m)(aE:y=hU b (a.take j) k)(cO:z=hU b (a.take i) m)(a_:t=x+if r≠c then 1 else 0):
 min (min t (y+1)) (z+1)=hU b (a.take i) k:=by
 subst bo hm;have h1:a.take (j+1)=a.take j++[r]:=(by rw[List.take_add_one,a'];rfl);rw[h1,IF] at cO ⊢;show _=min (min (hU b (a.take j) (m+1)+1) (nL b (hU b (a.take j)) r m+1)) (hU b (a.take j) m+if b[m]?=some r then 0 else 1);rw[<-ag,<-aE,<-cO,al];by_cases he:r=c
 . rw[if_neg (by simp[he])] at a_;rw[if_pos (by rw[he])];omega
 . rw[if_pos he] at a_;rw[if_neg (by simp;exact λe=>he e.symm)];omega
theorem ahi{a b:List Int}{i j:Nat}(ar:i=a.length)(bo:j=b.length){l:List Int}{x:Int}(bl:l=gq b.length (hU b (a.take i)))(ag:l[j]?=some x):x=vd b a:=by
 subst ar bo;rw[bl] at ag;rw[(o6 ag).1,List.take_length];rfl
theorem Nu(q p:List Int):0<=vd q p/\vd q p<=p.length+q.length:=CY q p q.length
def mw(a b:aj):Int:=if jW a=true/\jW b=true then vd (dZ b) (dZ a) else -1
theorem ahj{a b:aj}(h:jW a=false\/jW b=false):(-1:Int)=mw a b:=by
 unfold mw;rw[if_neg];rintro⟨h1,ah⟩;rcases h with h|h<;>simp_all
theorem ahk{a b:aj}(h1:jW a=true)(ah:jW b=true):vd (jH b) (jH a)=mw a b:=by
 unfold mw jH;rw[if_pos h1,if_pos ah,if_pos ⟨h1,ah⟩]
theorem xP{a b:b4}:oe a b=true↔a.cp<b.cp\/a.cp=b.cp/\Lib.compareBytes a.word b.word<0:=by
 unfold oe No;rw[decide_eq_true_eq]
 have IW:oz [po a.cp b.cp,Lib.compareBytes a.word b.word]=if po a.cp b.cp≠0 then po a.cp b.cp else Lib.compareBytes a.word b.word:=by
  simp only[oz]
  split
  . rfl
  . split
    . rfl
    . omega
 rw[IW];unfold po;by_cases h1:a.cp<b.cp
 . simp[h1]
 . by_cases ah:a.cp>b.cp
   . simp[h1,ah];omega
   . have:a.cp=b.cp:=by omega
     simp[this]
def qC(a b:b4):Prop:=oe a b=true
theorem Wj{a b c:b4}(h1:qC a b)(ah:qC b c):qC a c:=by
 unfold qC at *;rw[xP] at *;rcases h1 with h1|⟨h1,ahl⟩<;>rcases ah with ah|⟨ah,Iu⟩
 . exact .inl aa
 . exact .inl aa
 . exact .inl aa
 . exact .inr ⟨by omega,lt_trans ahl Iu⟩
theorem Nv{a:b4}(h:qC a a):False:=by
 unfold qC at h;rw[xP] at h;rcases h with h|⟨_,h⟩
 . omega
 . rw[Ev] at h;omega
theorem ahm{a b:b4}(h:¬ qC a b)(dL:a≠b):qC b a:=by
 unfold qC at *;rw[xP] at *;have h1:¬ a.cp<b.cp:=λx=>h (.inl x)
 by_cases ah:b.cp<a.cp
 . exact .inl ah
 . have he:b.cp=a.cp:=(by omega);refine .inr ⟨he,?_⟩;have aB:¬ Lib.compareBytes a.word b.word<0:=λx=>h (.inr ⟨he.symm,x⟩)
   have bH:Lib.compareBytes a.word b.word≠0:=λe=>dL (by
    cases a;cases b
    simp only at *
    rw[he,cmp_eq e])
   exact acC aB λe=>bH (by rw[e];exact Ev _)
theorem Wk:∀{a b:List b4},a.Pairwise qC->b.Pairwise qC->(∀x,x∈a↔x∈b)->a=b
 | [],[],_,_,_=>rfl
 | [],y::b,_,_,h=>by have:=(h y).2 dh;simp at this
 | x::a,[],_,_,h=>by have:=(h x).1 dh;simp at this
 | x::a,y::b,ay,ab,h=>by
  rw[List.pairwise_cons] at ay ab
  have Ck:x=y:=by
   by_cases e:x=y
   . exact e
   . exfalso
     have h1:=(h x).1 dh
     have ah:=(h y).2 dh
     rcases List.mem_cons.1 h1 with h1|h1
     . exact e h1
     . rcases List.mem_cons.1 ah with ah|ah
       . exact e ah.symm
       . exact Nv (Wj (ay.1 y ah) (ab.1 x h1))
  subst Ck
  congr 1
  refine Wk ay.2 ab.2 λz=>?_
  constructor
  . intro cO
    rcases List.mem_cons.1 ((h z).1 (by simp[cO])) with e|e
    . subst e;exact(Nv (ay.1 _ cO)).elim
    . exact e
  . intro cO
    rcases List.mem_cons.1 ((h z).2 (by simp[cO])) with e|e
    . subst e;exact(Nv (ab.1 _ cO)).elim
    . exact e
def o7(x:b4):List b4->List b4
 | []=>[x]
 | y::r=>if oe x y=true then x::y::r else y::o7 x r
theorem Fe{x y:b4}:∀{l:List b4},y∈o7 x l↔y=x\/y∈l
 | []=>by simp[o7]
 | z::r=>by
  unfold o7
  split
  . simp
  . rw[List.mem_cons,Fe,List.mem_cons]
    constructor
    . rintro(h|h|h)
      . exact .inr (.inl h)
      . exact .inl h
      . exact .inr (.inr h)
    . rintro(h|h|h)
      . exact .inr (.inl h)
      . exact .inl h
      . exact .inr (.inr h)
theorem Wl{x:b4}:∀{l:List b4},l.Pairwise qC->x∉l->(o7 x l).Pairwise qC
 | [],_,_=>by simp[o7]
 | z::r,h,ag=>by
  rw[List.pairwise_cons] at h
  unfold o7
  split
  . rename_i bl
    refine List.pairwise_cons.2 ⟨λy aE=>?_,List.pairwise_cons.2 h⟩
    rcases List.mem_cons.1 aE with rfl|aE
    . exact bl
    . exact Wj bl (h.1 y aE)
  . rename_i bl
    refine List.pairwise_cons.2 ⟨λy aE=>?_,Wl h.2 λhm=>ag (by simp[hm])⟩
    rcases Fe.1 aE with rfl|aE
    . exact ahm bl λe=>ag (by simp[e])
    . exact h.1 y aE
theorem Nw(x:b4):∀(l:List b4),(o7 x l).length=l.length+1
 | []=>rfl
 | z::r=>by
  unfold o7
  split
  . simp
  . simp[Nw x r]
def pC(l:List b4)(x:b4)(k:Nat)(out:List b4)(b:Bool):Prop:=o7 x l=out++(if b=true then l.drop k else o7 x (l.drop k))/\out.length=k+if b=true then 1 else 0
theorem pC.start(l:List b4)(x:b4):pC l x 0 [] false:=⟨by simp,by simp⟩
theorem pC.here{l:List b4}{x y:b4}{k:Nat}{out:List b4}(h:pC l x k out false)(ag:l[k]?=some y)(bl:oe x y=true):pC l x (k+1) (out++[x]++[y]) true:=by
 obtain⟨h1,ah⟩:=h;refine⟨?_,by simp at ah ⊢;omega⟩;rw[h1,if_neg dh,if_pos rfl,wm ag]
 conv=>lhs;unfold o7
 rw[if_pos bl];simp
theorem pC.ahn{l:List b4}{x y:b4}{k:Nat}{out:List b4}(h:pC l x k out false)(ag:l[k]?=some y)(bl:oe x y=false):pC l x (k+1) (out++[y]) false:=by
 obtain⟨h1,ah⟩:=h;refine⟨?_,by simp at ah ⊢;omega⟩;rw[h1,if_neg dh,if_neg dh,wm ag]
 conv=>lhs;unfold o7
 rw[if_neg (by simp[bl])];simp
theorem pC.next{l:List b4}{x y:b4}{k:Nat}{out:List b4}(h:pC l x k out true)(ag:l[k]?=some y):pC l x (k+1) (out++[y]) true:=by
 obtain⟨h1,ah⟩:=h;refine⟨?_,by simp at ah ⊢;omega⟩;rw[h1,if_pos rfl,if_pos rfl,wm ag];simp
theorem pC.Wm{l:List b4}{x:b4}{k:Nat}{out:List b4}(h:pC l x k out false)(hk:l.length<=k):out++[x]=o7 x l:=by
 obtain⟨h1,_⟩:=h;rw[h1,if_neg dh,List.drop_of_length_le hk];rfl
theorem pC.Wn{l:List b4}{x:b4}{k:Nat}{out:List b4}(h:pC l x k out true)(hk:l.length<=k):out=o7 x l:=by
 obtain⟨h1,_⟩:=h;rw[h1,if_pos rfl,List.drop_of_length_le hk];simp
def o8(s:aj)(k:Int)(out:List b4)(w:aj):List b4:=if 0<=mw w s/\mw w s<=k then o7 ⟨mw w s,w⟩ out else out
def mN(words:List aj)(s:aj)(k:Int):List b4:=words.foldl (o8 s k) []
theorem Wo{words:List aj}{s:aj}{k:Int}{i:Nat}{w:aj}(hw:words[i]?=some w):(words.take (i+1)).foldl (o8 s k) []=o8 s k ((words.take i).foldl (o8 s k) []) w:=by
 rw[List.take_add_one,hw,List.foldl_append];rfl
theorem Wp{s:aj}{k:Int}{out:List b4}{w:aj}(h:0<=mw w s)(ah:mw w s<=k):o8 s k out w=o7 ⟨mw w s,w⟩ out:=by unfold o8;rw[if_pos ⟨h,ah⟩]
theorem Wq{s:aj}{k:Int}{out:List b4}{w:aj}(h:¬ (0<=mw w s/\mw w s<=k)):o8 s k out w=out:=by unfold o8;rw[if_neg h]
theorem aho{s:aj}{k:Int}:∀{words:List aj},words.Nodup->(mN words s k).Pairwise qC/\∀x,x∈mN words s k↔x.word∈words/\x.cp=mw x.word s/\0<=x.cp/\x.cp<=k:=by
 intro words;unfold mN;refine We (p:=λwords=>words.Nodup->(words.foldl (o8 s k) []).Pairwise qC/\∀x,x∈words.foldl (o8 s k) []↔x.word∈words/\x.cp=mw x.word s/\0<=x.cp/\x.cp<=k) ?_ ?_ words
 . intro _;simp
 . intro l w cc aR;rw[List.nodup_append] at aR;obtain⟨h1,_,aB⟩:=aR;obtain⟨rD,i2⟩:=cc h1;have hw:w∉l:=λh=>aB w h w dh rfl
   rw[List.foldl_append];show(o8 s k (l.foldl (o8 s k) []) w).Pairwise qC/\∀x,x∈o8 s k (l.foldl (o8 s k) []) w↔_;by_cases al:0<=mw w s/\mw w s<=k
   . rw[Wp al.1 al.2];refine⟨Wl rD λh=>hw ((i2 _).1 h).1,λx=>?_⟩;rw[Fe,i2];constructor
     . rintro(rfl|⟨h1,ah⟩)
       . exact⟨by simp,rfl,al.1,al.2⟩
       . exact⟨by simp[h1],ah⟩
     . rintro⟨h1,ah,bH⟩;rcases List.mem_append.1 h1 with h1|h1
       . exact .inr ⟨h1,ah,bH⟩
       . simp only[List.mem_singleton] at h1;refine .inl ?_;cases x;simp only at *;subst h1;rw[ah]
   . rw[Wq al];refine⟨rD,λx=>?_⟩;rw[i2];constructor
     . rintro⟨h1,ah⟩;exact⟨by simp[h1],ah⟩
     . rintro⟨h1,ah,bH⟩;rcases List.mem_append.1 h1 with h1|h1
       . exact⟨h1,ah,bH⟩
       . simp only[List.mem_singleton] at h1;rw[h1] at ah;exact absurd ⟨by rw[<-ah];exact bH.1,by rw[<-ah];exact bH.2⟩ al
theorem Wr(words:List aj)(s:aj)(k:Int):(mN words s k).length<=words.length:=by
 unfold mN
 have:∀(l:List aj) (out:List b4),(l.foldl (o8 s k) out).length<=out.length+l.length:=by
  intro l
  induction l with
  | nil=>simp
  | cons w l cc =>
   intro out
   have:=cc (o8 s k out w)
   rw[List.foldl_cons,List.length_cons]
   unfold o8 at this ⊢
   split at this
   . rw[if_pos bk];rw[Nw] at this;omega
   . rw[if_neg bk];omega
 simpa using this words []
def ti(words:List aj)(q:List Int)(n:Nat):List b4:=(List.range n).flatMap λ(d:Nat)=>(p7 words q d).map λw=>b4.mk (d:Int) w
theorem Ws(words:List aj)(q:List Int)(n:Nat):ti words q (n+1)=ti words q n++(p7 words q n).map λw=>b4.mk (n:Int) w:=by unfold ti;rw[List.range_succ,List.flatMap_append];simp
theorem Wt{words:List aj}{q:List Int}{n:Nat}{x:b4}:x∈ti words q n↔x.word∈words/\x.cp=vd q (dZ x.word)/\x.cp<n:=by
 unfold ti;rw[List.mem_flatMap];constructor
 . rintro⟨d,hd,ag⟩;obtain⟨w,hw,rfl⟩:=List.mem_map.1 ag;unfold p7 ve at hw;obtain⟨h1,ah⟩:=List.mem_filter.1 hw;have:=of_decide_eq_true ah;have:=List.mem_range.1 hd;exact⟨h1,by simp only;omega,by simp only;omega⟩
 . rintro⟨h1,ah,aB⟩;have:=(Nu q (dZ x.word)).1;refine⟨x.cp.toNat,List.mem_range.2 aa,List.mem_map.2 ⟨x.word,List.mem_filter.2 ⟨h1,by unfold ve;exact decide_eq_true aa⟩,?_⟩⟩;cases x;simp only at *;congr 1;omega
theorem Wu{words:List aj}{q:List Int}(aT:oX words):∀n,(ti words q n).Pairwise qC
 | 0=>by simp[ti]
 | n+1=>by
  rw[Ws,List.pairwise_append]
  refine⟨Wu aT n,?_,λa ay b ab=>?_⟩
  . rw[List.pairwise_map]
    refine(aT.filter _).imp λ{a b} mI=>?_
    exact xP.2 (.inr ⟨rfl,mI⟩)
  . obtain⟨w,_,rfl⟩:=List.mem_map.1 ab
    exact xP.2 (.inl (by have:=(Wt.1 ay).2.2;simp only;omega))
theorem Wv{w s:aj}(h1:jW w=true)(ah:jW s=true):mw w s=vd (dZ s) (dZ w):=by unfold mw;rw[if_pos ⟨h1,ah⟩]
theorem ahp{words:List aj}{s:aj}{k:Int}(aT:oX words)(bD:∀w∈words,jW w=true)(qt:jW s=true)(hk:0<=k):mN words s k=ti words (dZ s) (k.toNat+1):=by
 obtain⟨h1,ah⟩:=aho (s:=s) (k:=k) (adD aT);refine Wk h1 (Wu aT _) λx=>?_
 rw[ah,Wt];constructor
 . rintro⟨aB,bH,c_,e1⟩;rw[Wv (bD _ aB) qt] at bH;exact⟨aB,bH,by omega⟩
 . rintro⟨aB,bH,c_⟩;have:=(Nu (dZ s) (dZ x.word)).1;rw[Wv (bD _ aB) qt];exact⟨aB,bH,by omega,by omega⟩
def og(first:Bool)(after:b4)(x:b4):Bool:=first || oe after x
def j7(words:List aj)(s:aj)(k:Int)(first:Bool)(after:b4)(batch:Int):List b4×Bool:=
 if asked s=true/\0<=k/\k<=4 then
  let rest:=(mN words s k).filter (og first after)
  (rest.take (min (max batch 0) rest.length).toNat,decide (min (max batch 0) (rest.length:Int)=rest.length))
 else([],true)
theorem Nx{first:Bool}{after:b4}{B:Nat}{d:Int}:∀(L:List aj) (X:List b4),X.length<=B->(fq (mv first after B d) (X,false) L).1=((X++(L.map (b4.mk d)).filter (og first after)).take B,decide (B<(X++(L.map (b4.mk d)).filter (og first after)).length))
 | [],X,h=>by simp[fq,List.take_of_length_le h];omega
 | w::L,X,h=>by
  rw[List.map_cons]
  by_cases al:og first after ⟨d,w⟩=true
  . rw[List.filter_cons_of_pos al]
    have IW:first=true\/oe after ⟨d,w⟩=true:=by unfold og at al;simpa using al
    by_cases ab:(X.length:Int)=B
    . unfold fq
      rw[xN IW ab,if_neg dh]
      have:X.length=B:=by omega
      simp only
      rw[List.take_append_of_le_length aa,List.take_of_length_le aa]
      congr 1
      symm
      rw[decide_eq_true_eq]
      simp only[List.length_append,List.length_cons];omega
    . unfold fq
      rw[xO IW ab,if_pos dh]
      show(fq (mv first after B d) (X++[⟨d,w⟩],false) L).1=_
      rw[Nx (first:=first) (after:=after) (d:=d) (B:=B) L (X++[b4.mk d w]) (by simp only[List.length_append,List.length_cons,List.length_nil];omega)]
      simp
  . have Ww:og first after ⟨d,w⟩=false:=by simpa using al
    rw[List.filter_cons_of_neg al]
    unfold og at Ww
    obtain⟨bD,bl⟩:first=false/\oe after ⟨d,w⟩=false:=by simpa using Ww
    subst bD
    unfold fq
    rw[xM bl,if_pos dh]
    exact Nx (B:=B) L X h
theorem Wx{words:List aj}{q:List Int}{first:Bool}{after:b4}{B:Nat}:∀n,iD words q first after B n=(((ti words q n).filter (og first after)).take B,decide (B<((ti words q n).filter (og first after)).length))
 | 0=>by simp[iD,ti]
 | n+1=>by
  have cc:=Wx (words:=words) (q:=q) (first:=first) (after:=after) (B:=B) n
  unfold iD
  simp only
  rw[cc,Ws,List.filter_append]
  simp only
  by_cases hm:B<((ti words q n).filter (og first after)).length
  . rw[if_pos (decide_eq_true hm)]
    rw[List.take_append_of_le_length aa]
    congr 1
    rw[decide_eq_true hm,eq_comm,decide_eq_true_eq,List.length_append];omega
  . rw[if_neg (by simpa using hm)]
    unfold Np
    rw[List.take_of_length_le aa,decide_eq_false hm,Nx (B:=B) _ _ aa]
theorem ahq{g:List cy}{words:List aj}{s:aj}{k:Int}{first:Bool}{after:b4}{batch:Int}(aV:g≠[])(aT:oX words)(bD:∀w∈words,jW w=true):pB g words s k first after batch=j7 words s k first after batch:=by
 unfold pB j7;by_cases al:asked s=true/\0<=k/\k<=4
 . rw[if_pos (IU aV al.2 al.1),if_pos al];simp only;rw[ahp aT bD (IV al.1) al.2.1];have fY:max batch 0=((max batch 0).toNat:Int):=(by omega);rw[fY,Wx];simp only;generalize (ti words (dZ s) (k.toNat+1)).filter (og first after)=R;congr 1
   . by_cases h:(max batch 0).toNat<=R.length
     . congr 1;omega
     . rw[List.take_of_length_le aa,List.take_of_length_le aa]
   . by_cases h:(max batch 0).toNat<R.length
     . rw[decide_eq_true h,decide_eq_false aa];rfl
     . rw[decide_eq_false h,decide_eq_true aa];rfl
 . rw[if_neg (λh=>al ⟨(AV.1 h).2.2,(AV.1 h).2.1⟩),if_neg al]
end Go.ak
namespace Go.ak
open Go.aG
theorem ahr(a b:aj):-1<=mw a b/\mw a b<=(dZ a).length+(dZ b).length:=by
 unfold mw;split
 . have:=Nu (dZ b) (dZ a);omega
 . omega
theorem ahs{a b:b4}(h1:¬ a.cp<b.cp)(ah:¬ a.cp=b.cp):false=oe a b:=by
 cases h:oe a b with
 | false=>rfl
 | true=>rw[xP] at h;rcases h with h|h;exact absurd h h1;exact absurd h.1 ah
theorem aht{a b:b4}{c:Bool}(ah:a.cp=b.cp)(h:c=decide (Lib.compareBytes a.word b.word<0)):c=oe a b:=by
 cases gL:oe a b with
 | true =>
  rw[xP] at gL;rcases gL with gL|gL
  . omega
  . rw[h];exact decide_eq_true gL.2
 | false =>
  rw[h];refine decide_eq_false λag=>?_
  have:=xP.2 (.inr ⟨ah,ag⟩);rw[gL] at this;cases this
theorem ahu{x:b4}{l:List b4}{n:Nat}(h:∀y∈l,y.word.length<=n)(ag:x.word.length<=n):∀y∈o7 x l,y.word.length<=n:=λy aE=>by
 rcases Fe.1 aE with rfl|aE
 . exact ag
 . exact h y aE
theorem ahv{words:List aj}{s:aj}{k:Int}:∀x∈mN words s k,x.word∈words:=by
 unfold mN
 have:∀(l:List aj) (out:List b4),∀x∈l.foldl (o8 s k) out,x∈out\/x.word∈l:=by
  intro l
  induction l with
  | nil=>intro out x ag;exact .inl ag
  | cons w l cc =>
   intro out x ag
   rw[List.foldl_cons] at ag
   rcases cc _ x ag with h|h
   . unfold o8 at h
     split at h
     . rcases Fe.1 h with rfl|h
       . exact .inr dh
       . exact .inl h
     . exact .inl h
   . exact .inr (by simp[h])
 intro x ag;rcases this words [] x ag with h|h
 . simp at h
 . exact h
theorem ahw{words:List aj}{s:aj}{k:Int}(h:∀w∈words,w.length<=1000):∀x∈mN words s k,x.word.length<=1000:=λx ag=>h _ (ahv x ag)
theorem Wy{α:Type}{l:List α}{p:α->Bool}{i:Nat}{x:α}(ag:l[i]?=some x):(l.take (i+1)).filter p=(l.take i).filter p++if p x=true then[x] else[]:=by
 rw[List.take_add_one,ag,List.filter_append];congr 1
 by_cases h:p x=true<;>simp[h]
theorem ahx{l rest:List b4}{first:Bool}{after x:b4}{i:Nat}(h:rest=(l.take i).filter (og first after))(ag:l[i]?=some x)(al:first=true\/oe after x=true):rest++[x]=(l.take (i+1)).filter (og first after):=by
 rw[Wy ag,<-h,if_pos (by unfold og;rcases al with h|h<;>simp[h])]
theorem ahy{l rest:List b4}{first:Bool}{after x:b4}{i:Nat}(h:rest=(l.take i).filter (og first after))(ag:l[i]?=some x)(bD:first=false)(al:oe after x=false):rest=(l.take (i+1)).filter (og first after):=by
 rw[Wy ag,<-h,if_neg (by unfold og;simp[bD,al])];simp
section
variable {words:List aj} {s:aj} {k batch:Int} {first:Bool} {after:b4} {rest:List b4} {i:Nat}
theorem IX(h:¬ (asked s=true/\0<=k/\k<=4)):j7 words s k first after batch=([],true):=by unfold j7;rw[if_neg h]
theorem ahz(h:k<0\/k>4):[]=(j7 words s k first after batch).1:=by rw[IX (λx=>by omega)]
theorem ahA(h:asked s=false):[]=(j7 words s k first after batch).1:=by rw[IX (λx=>by simp[h] at x)]
theorem ahB(h:k<0\/k>4):true=(j7 words s k first after batch).2:=by rw[IX (λx=>by omega)]
theorem ahC(h:asked s=false):true=(j7 words s k first after batch).2:=by rw[IX (λx=>by simp[h] at x)]
theorem Wz(h:rest=((mN words s k).take i).filter (og first after))(ar:(mN words s k).length<=i)(ay:asked s=true)(hk:0<=k/\k<=4):j7 words s k first after batch=(rest.take (min (max batch 0) rest.length).toNat,decide (min (max batch 0) (rest.length:Int)=rest.length)):=by
 unfold j7;rw[List.take_of_length_le ar] at h;rw[if_pos ⟨ay,hk⟩,<-h]
theorem ahD(h:rest=((mN words s k).take i).filter (og first after))(ar:(mN words s k).length<=i)(ay:asked s=true)(hk:0<=k/\k<=4):rest.take (min (max batch 0) rest.length).toNat=(j7 words s k first after batch).1:=by rw[Wz h ar ay hk]
theorem ahE{b:Bool}(h:rest=((mN words s k).take i).filter (og first after))(ar:(mN words s k).length<=i)(ay:asked s=true)(hk:0<=k/\k<=4)(ab:b=decide (min (max batch 0) (rest.length:Int)=rest.length)):b=(j7 words s k first after batch).2:=by rw[Wz h ar ay hk,ab]
theorem arF(words:List aj)(s:aj)(k:Int)(first:Bool)(after:b4)(batch:Int):(j7 words s k first after batch).1.length<=words.length:=by
 unfold j7;split
 . have h1:=Wr words s k;have ah:=List.length_filter_le (og first after) (mN words s k);simp only[List.length_take];omega
 . simp
end
end Go.ak
theorem Go.ak.pC.len{l:List Go.ak.b4}{x:Go.ak.b4}{k:Nat}{out:List Go.ak.b4}{b:Bool}(h:Go.ak.pC l x k out b):out.length<=k+1:=by
 have:=h.2;split at this<;>omega
theorem Go.ak.WA(words:List Go.aG.aj)(s:Go.aG.aj)(k:Int)(h:∀w∈words,w.length<=1000):∀x∈Go.ak.mN words s k,x.word.length<=1000:=Go.ak.ahw h
set_option linter.unusedSectionVars false
namespace Go.aG
open Go Go.MapKept
section
variable {P:Program} {E:Env} {C:World->Prop} {d:Option Tmp} {ty:TypeId} {pos:String} {af:Array Edge} {gd:Option (Nat×Bool)} {w:World} {K:Value->World->Prop}
variable {α β:Type} [DecidableEq α] {key:α->Value} {val:β->Value} {kind:TypeDesc}
def lA:List (α×β)->α->β->List (α×β)
 | [],a,u=>[(a,u)]
 | p::m,a,u=>if p.1=a then(a,u)::m else p::lA m a u
def ma:List (α×β)->α->List (α×β)
 | [],_=>[]
 | p::m,a=>if p.1=a then m else p::ma m a
def kP(key:α->Value)(val:β->Value)(w:World)(b:Nat)(m:List (α×β)):Prop:=
 ∃es clock,w.heap[b]?=some (.map es clock)/\Stamped es clock/\es.toList.map (λe=>(e.key,e.val))=m.map λp=>(key p.1,val p.2)
theorem kP.o{b:Nat}{m:List (α×β)}(h:kP key val w b m):nf key val w b m:=by
 obtain⟨es,c,h1,_,ah⟩:=h;exact⟨es,c,h1,ah⟩
theorem kP.lt{b:Nat}{m:List (α×β)}(h:kP key val w b m):b<w.heap.size:=h.o.lt
theorem kP.keep{M:Nat->Prop}{ao:World}{b:Nat}{m:List (α×β)}(h:kP key val w b m)(hm:Mod M w ao)(ab:¬ M b):kP key val ao b m:=by
 obtain⟨es,c,h1,ah,aB⟩:=h;exact⟨es,c,hm.keep _ _ h1 ab,ah,aB⟩
structure WB(P:Program)(e4:TypeId)(key:α->Value):Prop extends KeyOk P e4 key where
 bits:∀a,Instr.sameBits 10000 (key a) (key a)=true
theorem ahF{e4:TypeId}(h:P.underlying e4=some (.int .i64)):WB P e4 fD:=⟨u3 h,λa=>by simp[fD,Instr.sameBits]⟩
theorem KeyOk.inj{e4:TypeId}(h:KeyOk P e4 key){a b:α}(e:key a=key b):a=b:=by
 obtain⟨kind,_,aT⟩:=h.same;have h1:=aT b a;rw[e] at h1;rw[aT b b] at h1;simp only[Option.some.injEq,decide_true] at h1;exact(of_decide_eq_true h1.symm).symm
theorem ahG(a:α):gw ([]:List (α×β)) a=none:=rfl
theorem p9(p:α×β)(m:List (α×β))(a:α):gw (p::m) a=if p.1=a then some p.2 else gw m a:=by
 unfold gw;rw[List.find?_cons];by_cases h:p.1=a
 . simp[h]
 . simp[h]
theorem WC(aT:∀a b:α,Instr.sameNow kind (key a) (key b)=some (decide (a=b)))(a:α):∀(es:List MapEntry) (m:List (α×β)) (i:Nat),es.map (λe=>(e.key,e.val))=m.map (λp=>(key p.1,val p.2)) ->
 (gw m a=none/\Instr.findNow kind (key a) es i=some none/\(∀u,lA m a u=m++[(a,u)])/\ma m a=m/\∀p∈m,p.1≠a) \/
 (∃j eR j5,gw m a=some eR/\es[j]?=some j5/\j5.key=key a/\Instr.findNow kind (key a) es i=some (some (i+j,val eR)) /\
  (∀u,(es.modify j λe=>{ e with key:=key a,val:=val u }).map (λe=>(e.key,e.val))=(lA m a u).map λp=>(key p.1,val p.2)) /\
  (es.eraseIdx j).map (λe=>(e.key,e.val))=(ma m a).map λp=>(key p.1,val p.2))
 | [],m,i,h=>by
  cases m with
  | nil=>exact .inl ⟨rfl,rfl,λ_=>rfl,rfl,by simp⟩
  | cons _ _=>simp at h
 | e::es,m,i,h=>by
  cases m with
  | nil=>simp at h
  | cons p m =>
   simp only[List.map_cons,List.cons.injEq,Prod.mk.injEq] at h
   obtain⟨⟨h1,ah⟩,aB⟩:=h
   by_cases hp:p.1=a
   . refine .inr ⟨0,p.2,e,?_,rfl,by rw[h1,hp],?_,λu=>?_,?_⟩
     . rw[p9,if_pos hp]
     . unfold Instr.findNow
       rw[h1,aT a p.1,decide_eq_true hp.symm,ah];rfl
     . simp[lA,hp,aB]
     . simp[ma,hp,aB]
   . have Ax:¬ (a=p.1):=λe=>hp e.symm
     rcases WC aT a es m (i+1) aB with ⟨d_,q2,fE,gx,hV⟩|⟨j,eR,j5,d_,q2,fE,gx,hV,oE⟩
     . refine .inl ⟨?_,?_,λu=>?_,?_,?_⟩
       . rw[p9,if_neg hp];exact d_
       . unfold Instr.findNow
         rw[h1,aT a p.1,decide_eq_false Ax];exact q2
       . simp[lA,hp,fE]
       . simp[ma,hp,gx]
       . intro x ag
         rcases List.mem_cons.1 ag with rfl|ag
         . exact hp
         . exact hV x ag
     . refine .inr ⟨j+1,eR,j5,?_,q2,fE,?_,λu=>?_,?_⟩
       . rw[p9,if_neg hp];exact d_
       . unfold Instr.findNow
         rw[h1,aT a p.1,decide_eq_false Ax]
         simp only[gx]
         congr 3;omega
       . simp[lA,hp,h1,ah,hV]
       . simp[ma,hp,h1,ah,oE]
theorem ahH{e4:TypeId}(hk:KeyOk P e4 key)(a:α){es:Array MapEntry}{m:List (α×β)}(h:es.toList.map (λe=>(e.key,e.val))=m.map (λp=>(key p.1,val p.2)))(w:World):
 (gw m a=none/\(Instr.findKey e4 (key a) es.toList).run P w=.ok none w/\(∀u,lA m a u=m++[(a,u)])/\ma m a=m/\∀x∈es.toList,x.key≠key a) \/
 (∃j eR j5,gw m a=some eR/\es[j]?=some j5/\j5.key=key a/\(Instr.findKey e4 (key a) es.toList).run P w=.ok (some (j,val eR)) w /\
  (∀u,(es.modify j λe=>{ e with key:=key a,val:=val u }).toList.map (λe=>(e.key,e.val))=(lA m a u).map λp=>(key p.1,val p.2)) /\
  (es.eraseIdxIfInBounds j).toList.map (λe=>(e.key,e.val))=(ma m a).map λp=>(key p.1,val p.2)):=by
 obtain⟨kind,hu,aT⟩:=hk.same;rcases WC aT a es.toList m 0 h with ⟨d_,q2,fE,gx,hV⟩|⟨j,eR,j5,d_,q2,fE,gx,hV,oE⟩
 . refine .inl ⟨d_,?_,fE,gx,λx ag e=>?_⟩
   . unfold Instr.findKey;simp only[Sem.run_bind,run_underlying hu,Result.andThen_ok,q2,Sem.run_pure]
   . have:(x.key,x.val)∈m.map (λp=>(key p.1,val p.2)):=by
      rw[<-h];exact List.mem_map.2 ⟨x,ag,rfl⟩
     obtain⟨p,hp,he⟩:=List.mem_map.1 this;simp only[Prod.mk.injEq] at he;exact hV p hp (hk.inj (he.1.trans e))
 . rw[Array.getElem?_toList] at q2;have bo:j<es.size:=(Array.getElem?_eq_some_iff.1 q2).1;refine .inr ⟨j,eR,j5,d_,q2,fE,?_,λu=>?_,?_⟩
   . unfold Instr.findKey;simp only[Sem.run_bind,run_underlying hu,Result.andThen_ok,gx,Sem.run_pure,Nat.zero_add]
   . rw[Array.toList_modify];exact hV u
   . unfold Array.eraseIdxIfInBounds;rw[dif_pos bo,Array.toList_eraseIdx];exact oE
theorem CZ{w:World}{b:Nat}{o L5:Obj}(h:w.heap[b]?=some o):(w.heap.setIfInBounds b L5)[b]?=some L5:=by
 have:=(Array.getElem?_eq_some_iff.1 h).1;simp[this]
theorem gB.ahI{t e4 jo:TypeId}{x y z:Operand}{b:Nat}{m:List (α×β)}(a:α)(u:β)(hk:WB P e4 key)(a_:P.underlying t=some (.map e4 jo))(ag:aO E x=some (.map (some b)))(aE:aO E y=some (key a))(cO:aO E z=some (val u))(hm:kP key val w b m)
 (eU:∀ao,Mod (b3 (b+1)) w ao->ao.heap.size=w.heap.size->kP key val ao b (lA m a u)->K undef ao):gB P ⟨d,.mapUpdate t x y z,ty,pos,af,gd⟩ E w K:=λs ay=>by
 obtain⟨es,c,h1,ah,aB⟩:=hm
 have aV:=yM (P:=P) h1
 rcases ahH (P:=P) hk.toKeyOk a aB w with ⟨d_,q2,fE,gx,hV⟩|⟨j,eR,j5,d_,q2,fE,gx,hV,oE⟩
 . have h:=eU _ (Ay w b (.map (es.push { key:=key a,val:=val u,born:=c }) (c+1))) dh ⟨es.push { key:=key a,val:=val u,born:=c },c+1,CZ h1,stamped_push ah hV,by
    rw[fE u];simp[aB]⟩
   simp[execOp,ay.aO ag,ay.aO aE,ay.aO cO,Instr.mapUpdate,run_underlying a_,aV,hk.qZ,q2,setObj,Sem.run,h1,out]
   exact h
 . have mH:Stamped (es.modify j λe=>{ e with key:=key a,val:=val u }) c:=stamped_modify ah j _ (λ_ _=>rfl) λe _ he=>by
    rw[q2] at he;cases he;exact fE.symm
   have h:=eU _ (Ay w b (.map (es.modify j λe=>{ e with key:=key a,val:=val u }) c)) dh ⟨_,c,CZ h1,mH,hV u⟩
   have k6:Instr.keyThatStays (key a) (key a)=(pure (key a):Sem Value):=by
    unfold Instr.keyThatStays;rw[if_pos (hk.bits a)]
   simp[execOp,ay.aO ag,ay.aO aE,ay.aO cO,Instr.mapUpdate,run_underlying a_,aV,hk.qZ,gx,q2,fE,k6,setObj,Sem.run,h1,out]
   exact h
theorem gB.WD{t:TypeId}(eU:∀ao b,Ext w ao->b=w.heap.size->ao.heap.size=w.heap.size+1->kP key val ao b []->K (.map (some b)) ao):gB P ⟨d,.makeMap t none,ty,pos,af,gd⟩ E w K:=λs ay=>by
 have h:=eU (w.alloc (.map #[] 0)) w.heap.size (Mod.alloc _ _ _) rfl dh ⟨#[],0,by
  show(w.heap.push _)[w.heap.size]?=_
  simp,stamped_empty 0,by simp⟩
 simp[execOp,Instr.makeMap,newObj,Sem.run,out]
 exact h
end
section
variable {R:Nat->Prop}
def jq{α β:Type}[DecidableEq α](key:α->Value)(val:β->Value)(b:Nat)(m:List (α×β)):dr R:=⟨λF w=>kP key val w b m/\F b,λh hm bs _=>⟨h.1.keep hm (bs b h.2),h.2⟩⟩
variable {bV:Nat->Prop} {w0 w ao:World} {L:List (dr R)} {i:Nat}
theorem au.mp{α β:Type}[DecidableEq α]{key:α->Value}{val:β->Value}{b:Nat}{m:List (α×β)}(h:au R bV w0 w L)(ar:L[i]?=some (jq key val b m)):kP key val w b m:=by
 obtain⟨F,h1,_⟩:=h.get ar;exact h1.1
theorem au.C0{α β:Type}[DecidableEq α]{key:α->Value}{val:β->Value}{b:Nat}{m sU:List (α×β)}(h:au R bV w0 w L)(ar:L[i]?=some (jq key val b m))(hm:Mod (b3 (b+1)) w ao)(hk:kP key val ao b sU):au R bV w0 ao (L.set i (jq key val b sU)):=by
 obtain⟨F,h1,ah,k⟩:=h.act ar;exact k ao F _ (Mj hm h1.2) ⟨hk,h1.2⟩ λb ab=>⟨Nat.lt_of_lt_of_le (ah b ab).2 hm.size,.inl ab⟩
theorem au.WE{α β:Type}[DecidableEq α]{key:α->Value}{val:β->Value}{b:Nat}{m:List (α×β)}(h:au R bV w0 w L)(hm:Ext w ao)(ab:b=w.heap.size)(hk:kP key val ao b m):au R bV w0 ao (L++[jq key val b m]):=
 h.new (F:=λx=>x=b) hm ⟨hk,rfl⟩ λx ag=>by have:=hk.lt;omega
end
end Go.aG
set_option linter.unusedSectionVars false
namespace Go.aG
open Go
section
variable {P:Program} {E:Env} {C:World->Prop} {d:Option Tmp} {ty:TypeId} {pos:String} {af:Array Edge} {gd:Option (Nat×Bool)} {w:World} {K:Value->World->Prop}
def vg:Option TypeDesc->Bool
 | some (.interface _)=>false
 | some _=>true
 | none=>false
theorem bA.mkIf{t:TypeId}{x:Operand}{v:Value}(a_:vg (P.underlying t)=true)(ag:aO E x=some v):bA P ⟨d,.makeInterface t x,ty,pos,af,gd⟩ E C (.iface t v):=λs ay w _=>by
 cases hd:P.underlying t with
 | none=>rw[hd] at a_;cases a_
 | some q=>cases q<;>simp_all[execOp,ay.aO ag,Instr.makeInterface,run_underlying hd,vg]
theorem bA.pD{xt t:TypeId}{x:Operand}{v:Value}(a_:vg (P.underlying t)=true)(ag:aO E x=some (.iface t v)):bA P ⟨d,.typeAssert x xt t true,ty,pos,af,gd⟩ E C (.tuple #[v,.bool true]):=λs ay w _=>by
 cases hd:P.underlying t with
 | none=>rw[hd] at a_;cases a_
 | some q=>cases q<;>simp_all[execOp,ay.aO ag,Instr.typeAssert,run_underlying hd,vg]
theorem bA.iA{xt t u:TypeId}{x:Operand}{v z:Value}(a_:vg (P.underlying t)=true)(ag:aO E x=some (.iface u v))(dL:u≠t)(cO:∀w,(zeroValue t).run P w=.ok z w):bA P ⟨d,.typeAssert x xt t true,ty,pos,af,gd⟩ E C (.tuple #[z,.bool false]):=λs ay w _=>by
 cases hd:P.underlying t with
 | none=>rw[hd] at a_;cases a_
 | some q=>cases q<;>simp_all[execOp,ay.aO ag,Instr.typeAssert,run_underlying hd,vg]
end
end Go.aG
namespace Go.aG
open Go Go.MapKept
section
variable {P:Program} {E:Env} {C:World->Prop} {d:Option Tmp} {ty:TypeId} {pos:String} {af:Array Edge} {gd:Option (Nat×Bool)} {w:World} {K:Value->World->Prop}
variable {α β:Type} [DecidableEq α] {key:α->Value} {val:β->Value}
structure ug(P:Program)(e4:TypeId)(key:α->Value):Prop where
 qZ:∀(e:Bool) (a:α) (w:World),(Instr.checkKey e 10000 e4 (key a)).run P w=.ok () w
 bits:∀a,Instr.sameBits 10000 (key a) (key a)=true
 ahJ:∃kind,P.underlying e4=some kind/\∀a b:α,Instr.sameNow kind (key a) (key b)=none
 eq:∀(a b:α) (w:World),(Op.equal e4 (key a) (key b)).run P w=.ok (decide (a=b)) w
theorem ug.inj{e4:TypeId}(h:ug P e4 key){a b:α}(e:key a=key b):a=b:=by
 have h1:=h.eq a b default;rw[e,h.eq b b] at h1;simp only[Result.ok.injEq,decide_true] at h1;exact of_decide_eq_true h1.1.symm
theorem WG{e4:TypeId}(hk:ug P e4 key)(a:α)(w:World):∀(es:List MapEntry) (m:List (α×β)) (i:Nat),es.map (λe=>(e.key,e.val))=m.map (λp=>(key p.1,val p.2)) ->
 (gw m a=none/\(Instr.findAsking e4 (key a) es i).run P w=.ok none w/\(∀u,lA m a u=m++[(a,u)])/\ma m a=m/\∀p∈m,p.1≠a) \/
 (∃j eR j5,gw m a=some eR/\es[j]?=some j5/\j5.key=key a/\(Instr.findAsking e4 (key a) es i).run P w=.ok (some (i+j,val eR)) w /\
  (∀u,(es.modify j λe=>{ e with key:=key a,val:=val u }).map (λe=>(e.key,e.val))=(lA m a u).map λp=>(key p.1,val p.2)) /\
  (es.eraseIdx j).map (λe=>(e.key,e.val))=(ma m a).map λp=>(key p.1,val p.2))
 | [],m,i,h=>by
  cases m with
  | nil=>exact .inl ⟨rfl,rfl,λ_=>rfl,rfl,by simp⟩
  | cons _ _=>simp at h
 | e::es,m,i,h=>by
  cases m with
  | nil=>simp at h
  | cons p m =>
   simp only[List.map_cons,List.cons.injEq,Prod.mk.injEq] at h
   obtain⟨⟨h1,ah⟩,aB⟩:=h
   by_cases hp:p.1=a
   . refine .inr ⟨0,p.2,e,?_,rfl,by rw[h1,hp],?_,λu=>?_,?_⟩
     . rw[p9,if_pos hp]
     . unfold Instr.findAsking
       rw[h1,ah]
       simp only[Sem.run_bind,hk.eq a p.1 w,decide_eq_true hp.symm,Result.andThen_ok,if_true,Sem.run_pure,Nat.add_zero]
     . simp[lA,hp,aB]
     . simp[ma,hp,aB]
   . have Ax:¬ (a=p.1):=λe=>hp e.symm
     rcases WG hk a w es m (i+1) aB with ⟨d_,q2,fE,gx,hV⟩|⟨j,eR,j5,d_,q2,fE,gx,hV,oE⟩
     . refine .inl ⟨?_,?_,λu=>?_,?_,?_⟩
       . rw[p9,if_neg hp];exact d_
       . unfold Instr.findAsking
         rw[h1]
         simp only[Sem.run_bind,hk.eq a p.1 w,decide_eq_false Ax,Result.andThen_ok,Bool.false_eq_true,if_false]
         exact q2
       . simp[lA,hp,fE]
       . simp[ma,hp,gx]
       . intro x ag
         rcases List.mem_cons.1 ag with rfl|ag
         . exact hp
         . exact hV x ag
     . refine .inr ⟨j+1,eR,j5,?_,q2,fE,?_,λu=>?_,?_⟩
       . rw[p9,if_neg hp];exact d_
       . unfold Instr.findAsking
         rw[h1]
         simp only[Sem.run_bind,hk.eq a p.1 w,decide_eq_false Ax,Result.andThen_ok,Bool.false_eq_true,if_false]
         rw[gx];congr 3;omega
       . simp[lA,hp,h1,ah,hV]
       . simp[ma,hp,h1,ah,oE]
theorem IY{e4:TypeId}(hk:ug P e4 key)(a:α){es:Array MapEntry}{m:List (α×β)}(h:es.toList.map (λe=>(e.key,e.val))=m.map (λp=>(key p.1,val p.2)))(w:World):
 (gw m a=none/\(Instr.findKey e4 (key a) es.toList).run P w=.ok none w/\(∀u,lA m a u=m++[(a,u)])/\ma m a=m/\∀x∈es.toList,x.key≠key a) \/
 (∃j eR j5,gw m a=some eR/\es[j]?=some j5/\j5.key=key a/\(Instr.findKey e4 (key a) es.toList).run P w=.ok (some (j,val eR)) w /\
  (∀u,(es.modify j λe=>{ e with key:=key a,val:=val u }).toList.map (λe=>(e.key,e.val))=(lA m a u).map λp=>(key p.1,val p.2)) /\
  (es.eraseIdxIfInBounds j).toList.map (λe=>(e.key,e.val))=(ma m a).map λp=>(key p.1,val p.2)):=by
 obtain⟨kind,hu,aT⟩:=hk.ahJ
 have WH:(Instr.findKey e4 (key a) es.toList).run P w=(Instr.findAsking e4 (key a) es.toList 0).run P w:=by
  unfold Instr.findKey
  simp only[Sem.run_bind,run_underlying hu,Result.andThen_ok]
  cases ahK:es.toList with
  | nil=>rfl
  | cons e r =>
   have dL:Instr.findNow kind (key a) (e::r) 0=none:=by
    unfold Instr.findNow
    rw[ahK] at h
    cases m with
    | nil=>simp at h
    | cons p m =>
     simp only[List.map_cons,List.cons.injEq,Prod.mk.injEq] at h
     rw[h.1.1,aT]
   rw[dL]
 rcases WG hk a w es.toList m 0 h with ⟨d_,q2,fE,gx,hV⟩|⟨j,eR,j5,d_,q2,fE,gx,hV,oE⟩
 . refine .inl ⟨d_,WH.trans q2,fE,gx,λx ag e=>?_⟩
   have:(x.key,x.val)∈m.map (λp=>(key p.1,val p.2)):=by
    rw[<-h];exact List.mem_map.2 ⟨x,ag,rfl⟩
   obtain⟨p,hp,he⟩:=List.mem_map.1 this;simp only[Prod.mk.injEq] at he;exact hV p hp (hk.inj (he.1.trans e))
 . rw[Array.getElem?_toList] at q2;have bo:j<es.size:=(Array.getElem?_eq_some_iff.1 q2).1;refine .inr ⟨j,eR,j5,d_,q2,fE,?_,λu=>?_,?_⟩
   . rw[WH,gx,Nat.zero_add]
   . rw[Array.toList_modify];exact hV u
   . unfold Array.eraseIdxIfInBounds;rw[dif_pos bo,Array.toList_eraseIdx];exact oE
theorem gB.Ny{t e4 jo:TypeId}{x y z:Operand}{b:Nat}{m:List (α×β)}(a:α)(u:β)(hk:ug P e4 key)(a_:P.underlying t=some (.map e4 jo))(ag:aO E x=some (.map (some b)))(aE:aO E y=some (key a))(cO:aO E z=some (val u))(hm:kP key val w b m)
 (eU:∀ao,Mod (b3 (b+1)) w ao->ao.heap.size=w.heap.size->kP key val ao b (lA m a u)->K undef ao):gB P ⟨d,.mapUpdate t x y z,ty,pos,af,gd⟩ E w K:=λs ay=>by
 obtain⟨es,c,h1,ah,aB⟩:=hm
 have aV:=yM (P:=P) h1
 rcases IY (P:=P) hk a aB w with ⟨d_,q2,fE,gx,hV⟩|⟨j,eR,j5,d_,q2,fE,gx,hV,oE⟩
 . have h:=eU _ (Ay w b (.map (es.push { key:=key a,val:=val u,born:=c }) (c+1))) dh ⟨es.push { key:=key a,val:=val u,born:=c },c+1,CZ h1,stamped_push ah hV,by
    rw[fE u];simp[aB]⟩
   simp[execOp,ay.aO ag,ay.aO aE,ay.aO cO,Instr.mapUpdate,run_underlying a_,aV,hk.qZ,q2,setObj,Sem.run,h1,out]
   exact h
 . have mH:Stamped (es.modify j λe=>{ e with key:=key a,val:=val u }) c:=stamped_modify ah j _ (λ_ _=>rfl) λe _ he=>by
    rw[q2] at he;cases he;exact fE.symm
   have h:=eU _ (Ay w b (.map (es.modify j λe=>{ e with key:=key a,val:=val u }) c)) dh ⟨_,c,CZ h1,mH,hV u⟩
   have k6:Instr.keyThatStays (key a) (key a)=(pure (key a):Sem Value):=by
    unfold Instr.keyThatStays;rw[if_pos (hk.bits a)]
   simp[execOp,ay.aO ag,ay.aO aE,ay.aO cO,Instr.mapUpdate,run_underlying a_,aV,hk.qZ,gx,q2,fE,k6,setObj,Sem.run,h1,out]
   exact h
theorem gB.WI{t e4 jo:TypeId}{mm:Array TypeId}{x y:Operand}{b:Nat}{m:List (α×β)}(a:α)(hk:ug P e4 key)(a_:P.underlying t=some (.map e4 jo))(WJ:mm[0]?=some t)(ag:aO E x=some (.map (some b)))(aE:aO E y=some (key a))(hm:kP key val w b m)
 (eU:∀ao,Mod (b3 (b+1)) w ao->ao.heap.size=w.heap.size->kP key val ao b (ma m a)->K (.tuple #[]) ao):gB P ⟨d,.call { callee:=.builtin .delete,args:=#[x,y],argTypes:=mm },ty,pos,af,gd⟩ E w K:=λs ay=>by
 obtain⟨es,c,h1,ah,aB⟩:=hm
 have aV:=yM (P:=P) h1
 rcases IY (P:=P) hk a aB w with ⟨d_,q2,fE,gx,hV⟩|⟨j,eR,j5,d_,q2,fE,gx,hV,oE⟩
 . have h:=eU _ (Ay w b (.map es c)) dh ⟨es,c,CZ h1,ah,by rw[gx];exact aB⟩
   simp[execOp,resolve,invoke,builtin,ay.aO ag,ay.aO aE,Builtin.delete_,WJ,run_underlying a_,aV,hk.qZ,q2,setObj,Sem.run,h1,out]
   exact h
 . have h:=eU _ (Ay w b (.map (es.eraseIdxIfInBounds j) c)) dh ⟨_,c,CZ h1,stamped_erase ah j,oE⟩
   simp[execOp,resolve,invoke,builtin,ay.aO ag,ay.aO aE,Builtin.delete_,WJ,run_underlying a_,aV,hk.qZ,gx,setObj,Sem.run,h1,out]
   exact h
theorem bA.WK{t e4 jo:TypeId}{x y:Operand}{b:Nat}{m:List (α×β)}{a:α}{z:Value}(hk:ug P e4 key)(a_:P.underlying t=some (.map e4 jo))(cO:∀w,(zeroValue jo).run P w=.ok z w)(ag:aO E x=some (.map (some b)))(aE:aO E y=some (key a))(hm:∀w,C w->kP key val w b m):
 bA P ⟨d,.lookup t x y true,ty,pos,af,gd⟩ E C (.tuple #[(match gw m a with|some u=>val u|none=>z),.bool (gw m a).isSome]):=λs ay w hC=>by
 obtain⟨es,c,h1,_,aB⟩:=hm w hC
 have aV:=yM (P:=P) h1
 rcases IY (P:=P) hk a aB w with ⟨d_,q2,fE,gx,hV⟩|⟨j,eR,j5,d_,q2,fE,gx,hV,oE⟩
 . simp[execOp,ay.aO ag,ay.aO aE,Instr.lookup,run_underlying a_,aV,hk.qZ,q2,cO,d_]
 . simp[execOp,ay.aO ag,ay.aO aE,Instr.lookup,run_underlying a_,aV,hk.qZ,gx,d_]
theorem bA.ahL{t e4 jo:TypeId}{x y:Operand}{b:Nat}{m:List (α×β)}{a:α}{z:Value}(hk:ug P e4 key)(a_:P.underlying t=some (.map e4 jo))(cO:∀w,(zeroValue jo).run P w=.ok z w)(ag:aO E x=some (.map (some b)))(aE:aO E y=some (key a))(hm:∀w,C w->kP key val w b m):
 bA P ⟨d,.lookup t x y false,ty,pos,af,gd⟩ E C (match gw m a with|some u=>val u|none=>z):=λs ay w hC=>by
 obtain⟨es,c,h1,_,aB⟩:=hm w hC
 have aV:=yM (P:=P) h1
 rcases IY (P:=P) hk a aB w with ⟨d_,q2,fE,gx,hV⟩|⟨j,eR,j5,d_,q2,fE,gx,hV,oE⟩
 . simp[execOp,ay.aO ag,ay.aO aE,Instr.lookup,run_underlying a_,aV,hk.qZ,q2,cO,d_]
 . simp[execOp,ay.aO ag,ay.aO aE,Instr.lookup,run_underlying a_,aV,hk.qZ,gx,d_]
theorem bA.Nz{t e4 jo:TypeId}{x y:Operand}{b:Nat}{m:List (α×β)}{a:α}{z:Value}{u:β}(hk:ug P e4 key)(a_:P.underlying t=some (.map e4 jo))(cO:∀w,(zeroValue jo).run P w=.ok z w)(ag:aO E x=some (.map (some b)))(aE:aO E y=some (key a))(hm:∀w,C w->kP key val w b m)(ay:gw m a=some u):
 bA P ⟨d,.lookup t x y false,ty,pos,af,gd⟩ E C (val u):=by
 have h:=bA.ahL (d:=d) (ty:=ty) (pos:=pos) (af:=af) (gd:=gd) (val:=val) hk a_ cO ag aE hm;rw[ay] at h;exact h
theorem bA.ahM{t e4 jo:TypeId}{x y:Operand}{b:Nat}{m:List (α×β)}{a:α}{z:Value}{u:β}(hk:ug P e4 key)(a_:P.underlying t=some (.map e4 jo))(cO:∀w,(zeroValue jo).run P w=.ok z w)(ag:aO E x=some (.map (some b)))(aE:aO E y=some (key a))(hm:∀w,C w->kP key val w b m)(ay:gw m a=some u):
 bA P ⟨d,.lookup t x y true,ty,pos,af,gd⟩ E C (.tuple #[val u,.bool true]):=by
 have h:=bA.WK (d:=d) (ty:=ty) (pos:=pos) (af:=af) (gd:=gd) (val:=val) hk a_ cO ag aE hm;rw[ay] at h;exact h
theorem bA.ahN{t e4 jo:TypeId}{x y:Operand}{b:Nat}{m:List (α×β)}{a:α}{z:Value}(hk:ug P e4 key)(a_:P.underlying t=some (.map e4 jo))(cO:∀w,(zeroValue jo).run P w=.ok z w)(ag:aO E x=some (.map (some b)))(aE:aO E y=some (key a))(hm:∀w,C w->kP key val w b m)(ay:gw m a=none):
 bA P ⟨d,.lookup t x y true,ty,pos,af,gd⟩ E C (.tuple #[z,.bool false]):=by
 have h:=bA.WK (d:=d) (ty:=ty) (pos:=pos) (af:=af) (gd:=gd) (val:=val) hk a_ cO ag aE hm;rw[ay] at h;exact h
end
end Go.aG
set_option linter.unusedSectionVars false
namespace Go.aG
open Go
section
variable {α:Type}
def jB(enc:α->List Value)(e:TypeId)(sz:Nat)(w:World)(g:Nat)(v:Value)(l:List α):Prop:=
 (∃a,v=.slice a 0 0/\l=[]/\g=0) \/
 ∃b off cap X Y,g=b+1/\v=.slice (some ⟨b,off*sz,none⟩) l.length cap/\w.heap[b]?=some (.cells (X++l.flatMap enc++Y).toArray e (0,0))/\X.length=off*sz/\l.length<=cap/\Y.length=(cap-l.length)*sz/\off+cap<=maxLen
variable {enc:α->List Value} {e:TypeId} {sz:Nat} {w:World} {g:Nat} {v:Value} {l:List α}
theorem jB.nil:jB enc e sz w 0 (.slice none 0 0) []:=.inl ⟨_,rfl,rfl,rfl⟩
theorem jB.keep{M:Nat->Prop}{ao:World}(h:jB enc e sz w g v l)(hm:Mod M w ao)(aV:∀b,g=b+1->¬ M b):jB enc e sz ao g v l:=by
 rcases h with h|⟨b,off,cap,X,Y,bK,h1,ah,aB⟩
 . exact .inl h
 . exact .inr ⟨b,off,cap,X,Y,bK,h1,hm.keep _ _ ah (aV b bK),aB⟩
theorem jB.lt(h:jB enc e sz w g v l):g<=w.heap.size:=by
 rcases h with ⟨_,_,_,h⟩|⟨b,off,cap,X,Y,bK,_,ah,_⟩
 . omega
 . have:=(Array.getElem?_eq_some_iff.1 ah).1;omega
theorem jB.cj(h:jB enc e sz w g v l):aq enc w (dq (g-1) g) v l:=by
 rcases h with ⟨a,h,gL,_⟩|⟨b,off,cap,X,Y,bK,h1,ah,aB,bH,c_,e1⟩
 . subst gL;subst h;exact⟨a,0,rfl,Nat.le_refl _,Nat.zero_le _,.inl rfl⟩
 . refine⟨_,cap,h1,bH,by omega,.inr ⟨b,off*sz,rfl,by unfold dq;omega,λi u hu=>?_⟩⟩;rw[cell_of_row w b _ _ e (0,0) ah];rw[List.getElem?_toArray,List.append_assoc,List.getElem?_append_right aa,show off*sz+i-X.length=i from by omega,List.getElem?_append_left (List.getElem?_eq_some_iff.1 hu).1];exact hu
theorem NA{P:Program}{b:Nat}{e:TypeId}{w:World}{A B C vs:List Value}(h:w.heap[b]?=some (.cells (A++B++C).toArray e (0,0)))(bl:vs.length=B.length)(h1:∀v∈vs,v.oneCell'=true):
 ∃ao,(storeCells ⟨b,A.length,none⟩ vs).run P w=.ok () ao/\ao.heap[b]?=some (.cells (A++vs++C).toArray e (0,0))/\Mod (λi=>i=b) w ao/\ao.heap.size=w.heap.size:=by
 have mH:=run_storeCells_at P b A.length e vs 0 _ w h (by simp[bl]) h1;refine⟨_,mH,?_,Hj _ _ _,by simp[World.setRow]⟩;rw[setRow_heap w b _ _ e _ h];congr 3
 simp only[Nat.add_zero,List.append_assoc,List.take_left];congr 1
 congr 1
 rw[show A.length+vs.length=(A++B).length from by rw[List.length_append,bl],<-List.append_assoc,List.drop_left]
theorem jB.append{P:Program}(h:jB enc e sz w g v l){t ty:TypeId}{fT:Bool}{by_:Nat}{z:List Value}(a_:P.underlying t=some (.slice e))(he:ey P e=some (fT,sz,by_,z))(cO:z.length=sz)
 (dN:∀x,(enc x).length=sz) (h1:∀x,(enc x).all (·.oneCell')=true) {F:Nat->Prop} {v2:Value} {dP:List α} (aT:aq enc w F v2 dP) (dL:dP≠[]) (xk:(l.length+dP.length)*by_<=140737488355328) (tK:l.length+dP.length<=maxLen) :
 ∃gT fz ao,(Builtin.append_ #[t,t] ty #[v,v2]).run P w=.ok gT ao/\jB enc e sz ao fz gT (l++dP)/\Mod (b3 g) w ao/\(fz=g\/w.heap.size<fz):=by
 obtain⟨i,jF,jS,rD,i2,i3,i4,i5,Eg,RN⟩:=B6 he
 have Hk:∀u∈dP.flatMap enc,u.oneCell'=true:=λu hu=>by
  obtain⟨x,_,ag⟩:=List.mem_flatMap.1 hu
  exact List.all_eq_true.1 (h1 x) u ag
 have dk:(dP.flatMap enc).length=dP.length*i.size:=(by rw[rA dN,i4]);have mn:(l.flatMap enc).length=l.length*i.size:=(by rw[rA dN,i4]);have vZ:jS.cells.size=sz:=(by rw[<-Array.length_toList,Eg,cO]);have RO:l.length+dP.length<=9223372036854775807:=tK;have CO:1<=dP.length:=(by cases dP<;>simp_all);obtain⟨a2,Ae,rfl,Eh,aA,aT⟩:=aT
 obtain⟨aQ,pn,rfl,bs,cY⟩:∃aQ pn,a2=some (⟨aQ,pn,none⟩:Addr)/\F aQ/\Row w aQ pn (dP.flatMap enc):=by
  rcases aT with h|⟨aQ,pn,h1,ah,aB⟩
  . exact absurd h dL
  . exact⟨aQ,pn,h1,ah,aB⟩
 have Ei:∀j u,(dP.flatMap enc)[j]?=some u->w.cell? ((⟨aQ,pn,none⟩:Addr).add j)=some u:=λj u hu=>by
  rw[add_lit];exact cY.cell j u hu
 have NB:Src P i.size t (.slice (some ⟨aQ,pn,none⟩) dP.length Ae) dP.length (dP.flatMap enc) w:=Src.ofSlice w a_ _ _ _ _ dk Ei Hk
 have fresh:∀(n3:Nat),n3<l.length+dP.length->∀aZ:World,aZ=w.drew.alloc (.cells ((l.flatMap enc++dP.flatMap enc).toArray++Builtin.zeroCells jS.cells (grownCap w (l.length+dP.length) n3 e-(l.length+dP.length))) e) ->
  jB enc e sz aZ (w.heap.size+1) (.slice (some ⟨w.heap.size,0,none⟩) (l.length+dP.length) (grownCap w (l.length+dP.length) n3 e)) (l++dP)/\Mod (b3 g) w aZ:=by
  intro n3 eh aZ eC
  subst eC
  have yy:=grownCap_ge w (l.length+dP.length) n3 e
  have sV:grownCap w (l.length+dP.length) n3 e<=maxLen:=grownCap_le_maxLen w (l.length+dP.length) n3 e tK
  refine⟨.inr ⟨w.heap.size,0,_,[],(Builtin.zeroCells jS.cells (grownCap w (l.length+dP.length) n3 e-(l.length+dP.length))).toList,rfl,by rw[List.length_append,Nat.zero_mul],?_,by simp,by rw[List.length_append];exact yy,?_,by omega⟩,?_⟩
  . refine(heap_alloc_new w.drew _).trans ?_
    congr 2
    apply Array.ext'
    simp[List.flatMap_append]
  . rw[Array.length_toList,size_zeroCells,vZ,List.length_append]
  . exact(Mod.drew _ w).trans (Mod.alloc _ _ _)
 rcases h with ⟨a,rfl,rfl,rfl⟩|⟨b,off,cap,X,Y,rfl,rfl,aV,rP,uT,wD,sV⟩
 . have hold:(Builtin.firstCells i.size 0 (.slice a 0 0)).run P w.drew=.ok (#[]:Array Value) w.drew:=by
    cases a<;>simp[Builtin.firstCells,loadCells,loadCellsFrom]
   have tM:dP.length*i.bytes<=140737488355328:=by
    have ab:=xk;simp only[List.length_nil,Nat.zero_add] at ab;rw[i5];exact ab
   have a':=run_append_grow_src (P:=P) w t t ty e i jS a_ rD i3 a 0 0 [] hold _ _ _ NB aa aa (growslice_fits aa (by simpa using tM));have bD:=fresh 0 (by simp;omega) _ rfl;simp only[List.length_nil,Nat.zero_add,List.flatMap_nil,List.nil_append] at bD a';exact⟨_,_,_,a',bD.1,bD.2,.inr (Nat.lt_succ_self _)⟩
 . by_cases B9:l.length+dP.length<=cap
   . have aR:(dP.flatMap enc).length<=Y.length:=by
      rw[dk,wD,i4];exact Nat.mul_le_mul_right _ aa
     obtain⟨ao,d_,q2,fE,gx⟩:=NA (P:=P) (A:=X++l.flatMap enc) (B:=Y.take (dP.flatMap enc).length) (C:=Y.drop (dP.flatMap enc).length) (vs:=dP.flatMap enc) (b:=b) (e:=e) (w:=w) (by rw[List.append_assoc _ _ (Y.drop _),List.take_append_drop];exact aV) (by rw[List.length_take];omega) Hk;refine⟨.slice (some ⟨b,off*sz,none⟩) (l.length+dP.length) cap,b+1,ao,?_,.inr ⟨b,off,cap,X,Y.drop (dP.flatMap enc).length,rfl,by rw[List.length_append],?_,rP,by rw[List.length_append];exact B9,?_,sV⟩,fE.weaken (λi ar _=>by unfold b3;omega),.inl rfl⟩
     . have bf:(X++l.flatMap enc).length=off*sz+l.length*i.size:=(by rw[List.length_append,rP,mn]);rw[bf] at d_;simp[Builtin.append_,run_underlying a_,sizeOf,typeInfo,rD,Builtin.lenOf,B9,NB.cells,Addr.add_lit,d_]
     . rw[q2,List.flatMap_append,List.append_assoc X]
     . rw[List.length_drop,wD,dk,i4,<-Nat.sub_mul,List.length_append];congr 1;omega
   . have holds:∀j u,(l.flatMap enc)[j]?=some u->w.drew.cell? ((⟨b,off*sz,none⟩:Addr).add j)=some u:=λj u hu=>by
      rw[add_lit,cell_of_row w.drew b _ _ e (0,0) aV,List.getElem?_toArray,List.append_assoc,List.getElem?_append_right aa,show off*sz+j-X.length=j from by omega,List.getElem?_append_left (List.getElem?_eq_some_iff.1 hu).1]
      exact hu
     have hold:=run_firstCells_some (P:=P) w.drew i.size l.length ⟨b,off*sz,none⟩ l.length cap (l.flatMap enc) mn holds;have a':=run_append_grow_src (P:=P) w t t ty e i jS a_ rD i3 (some ⟨b,off*sz,none⟩) l.length cap (l.flatMap enc) hold _ _ _ NB aa aa (growslice_fits aa (by rw[i5];exact xk));have bD:=fresh cap aa _ rfl;exact⟨_,_,_,a',bD.1,bD.2,.inr (Nat.lt_succ_self _)⟩
theorem gB.ahO{P:Program}{E:Env}{d:Option Tmp}{ty:TypeId}{pos:String}{af:Array Edge}{gd:Option (Nat×Bool)}{K:Value->World->Prop}{t:TypeId}{x y:Operand}{fT:Bool}{by_:Nat}{z:List Value}{F:Nat->Prop}{v2:Value}{dP:List α}
 (h:jB enc e sz w g v l) (a_:P.underlying t=some (.slice e)) (he:ey P e=some (fT,sz,by_,z)) (cO:z.length=sz)
 (dN:∀x,(enc x).length=sz) (h1:∀x,(enc x).all (·.oneCell')=true) (ag:aO E x=some v) (aE:aO E y=some v2) (aT:aq enc w F v2 dP) (dL:dP≠[]) (xk:(l.length+dP.length)*by_<=140737488355328) (tK:l.length+dP.length<=maxLen)
 (eU:∀gT fz ao,jB enc e sz ao fz gT (l++dP)->Mod (b3 g) w ao->(fz=g\/w.heap.size<fz)->K gT ao) :
 gB P ⟨d,.call { callee:=.builtin .append,args:=#[x,y],argTypes:=#[t,t] },ty,pos,af,gd⟩ E w K:=λa ay=>by
 obtain⟨gT,fz,ao,a',ah,aB,bH⟩:=h.append (ty:=ty) a_ he cO dN h1 aT dL xk tK
 simp only[execOp,resolve,invoke,builtin,Sem.run_bind,Sem.run_pure,Result.andThen_ok,List.map_toArray,List.map_cons,List.map_nil,ay.aO ag,ay.aO aE,a',out]
 exact eU _ _ _ ah aB bH
end
end Go.aG
namespace Go.aG
open Go
section
variable {α:Type} {enc:α->List Value} {e:TypeId} {sz:Nat} {w:World} {g:Nat} {v:Value} {l:List α}
theorem IZ(l:List α)(i:Nat):l.flatMap enc=(l.take i).flatMap enc++(l.drop i).flatMap enc:=by rw[<-List.flatMap_append,List.take_append_drop]
theorem ahP(l:List α)(i:Nat)(ar:i<l.length):l.flatMap enc=(l.take i).flatMap enc++(enc l[i]++(l.drop (i+1)).flatMap enc):=by rw[IZ l i,List.drop_eq_getElem_cons ar,List.flatMap_cons]
theorem C1{P:Program}{n cap:Nat}{c7 ar:Option Value}(i j:Nat)(B7:(c7=none/\i=0)\/∃k n,c7=some (.int k n)/\n=(i:Int))(pY:(ar=none/\j=n)\/∃k m,ar=some (.int k m)/\m=(j:Int))(mX:i<=j)(bo:j<=n)(al:n<=cap)(w:World):(Instr.sliceBounds true n cap c7 ar none).run P w=.ok (i,j,cap) w:=by
 rcases B7 with ⟨rfl,rfl⟩|⟨k,q,rfl,aR⟩<;>rcases pY with ⟨rfl,rfl⟩|⟨jy,m,rfl,hm⟩
 . simp[Instr.sliceBounds]
 . simp[Instr.sliceBounds,tI _ hm (Nat.le_trans bo al)]
 . simp[Instr.sliceBounds,tI _ aR mX]
 . simp[Instr.sliceBounds,tI _ hm (Nat.le_trans bo al),tI _ aR mX]
theorem jB.from{P:Program}{t:TypeId}{by_:Nat}{fT:Bool}{z:List Value}(h:jB enc e sz w g v l)(a_:P.underlying t=some (.slice e))(he:ey P e=some (fT,sz,by_,z))(dN:∀x,(enc x).length=sz){k:IntKind}{n:Int}(i:Nat)(aR:n=(i:Int))(ar:i<=l.length):
 ∃gT fz,(∀w,(Instr.sliceAt t v (some (.int k n)) none none).run P w=.ok gT w)/\jB enc e sz w fz gT (l.drop i)/\(fz=g\/fz=0):=by
 rcases h with ⟨a,rfl,rfl,rfl⟩|⟨b,off,cap,X,Y,rfl,rfl,aV,rP,uT,wD,sV⟩
 . have vh:i=0:=(by simpa using ar);subst vh;refine⟨.slice a 0 0,0,λw=>?_,.inl ⟨a,rfl,by simp,rfl⟩,.inl rfl⟩;simp[Instr.sliceAt,Instr.slice,run_underlying a_,C1 (n:=0) (cap:=0) 0 0 (.inr ⟨k,n,rfl,aR⟩) (.inl ⟨rfl,rfl⟩) (Nat.le_refl _) (Nat.le_refl _) (Nat.le_refl _) w,run_sizeOf he]
 . have WL:∀w,(Instr.sliceAt t (.slice (some ⟨b,off*sz,none⟩) l.length cap) (some (.int k n)) none none).run P w=.ok (.slice (if cap=i then some ⟨b,off*sz,none⟩ else some ⟨b,off*sz+i*sz,none⟩) (l.length-i) (cap-i)) w:=λw=>by
    have ab:=C1 (P:=P) (n:=l.length) (cap:=cap) i l.length (.inr ⟨k,n,rfl,aR⟩) (.inl ⟨rfl,rfl⟩) ar (Nat.le_refl _) uT w
    simp[Instr.sliceAt,Instr.slice,run_underlying a_,ab,run_sizeOf he,Addr.add_lit]
   by_cases al:cap=i
   . have I0:l.length=i:=(by omega);refine⟨_,0,WL,.inl ⟨some ⟨b,off*sz,none⟩,?_,List.drop_of_length_le aa,rfl⟩,.inr rfl⟩;rw[if_pos al,I0,Nat.sub_self,al,Nat.sub_self]
   . have tJ:=rA dN (l.take i);rw[List.length_take,Nat.min_eq_left ar] at tJ;refine⟨_,b+1,WL,.inr ⟨b,off+i,cap-i,X++(l.take i).flatMap enc,Y,rfl,?_,?_,?_,?_,?_,by omega⟩,.inl rfl⟩
     . rw[if_neg al,List.length_drop,Nat.add_mul]
     . rw[aV,IZ (enc:=enc) l i];simp only[List.append_assoc]
     . rw[List.length_append,rP,tJ,Nat.add_mul]
     . rw[List.length_drop];omega
     . rw[wD,List.length_drop];congr 1;omega
theorem jB.upto{P:Program}{t:TypeId}{by_:Nat}{fT:Bool}{z:List Value}(h:jB enc e sz w g v l)(a_:P.underlying t=some (.slice e))(he:ey P e=some (fT,sz,by_,z))(dN:∀x,(enc x).length=sz){k:IntKind}{n:Int}(j:Nat)(aR:n=(j:Int))(bo:j<=l.length):
 ∃gT,(∀w,(Instr.sliceAt t v none (some (.int k n)) none).run P w=.ok gT w)/\jB enc e sz w g gT (l.take j):=by
 rcases h with ⟨a,rfl,rfl,rfl⟩|⟨b,off,cap,X,Y,rfl,rfl,aV,rP,uT,wD,sV⟩
 . have E':j=0:=(by simpa using bo);subst E';refine⟨.slice a 0 0,λw=>?_,.inl ⟨a,rfl,by simp,rfl⟩⟩;simp[Instr.sliceAt,Instr.slice,run_underlying a_,C1 (n:=0) (cap:=0) 0 0 (.inl ⟨rfl,rfl⟩) (.inr ⟨k,n,rfl,aR⟩) (Nat.le_refl _) (Nat.le_refl _) (Nat.le_refl _) w,run_sizeOf he]
 . have tJ:=rA dN (l.drop j);refine⟨.slice (some ⟨b,off*sz,none⟩) j cap,λw=>?_,.inr ⟨b,off,cap,X,(l.drop j).flatMap enc++Y,rfl,by rw[List.length_take,Nat.min_eq_left bo],?_,rP,by rw[List.length_take];omega,?_,sV⟩⟩
   . have ab:=C1 (P:=P) (n:=l.length) (cap:=cap) 0 j (.inl ⟨rfl,rfl⟩) (.inr ⟨k,n,rfl,aR⟩) (Nat.zero_le _) bo uT w;simp[Instr.sliceAt,Instr.slice,run_underlying a_,ab,run_sizeOf he,Addr.add_lit]
   . rw[aV,IZ (enc:=enc) l j];simp only[List.append_assoc]
   . rw[List.length_append,tJ,wD,List.length_drop,List.length_take,Nat.min_eq_left bo,<-Nat.add_mul];congr 1;omega
theorem jB.at{P:Program}{t:TypeId}{by_:Nat}{fT:Bool}{z:List Value}(h:jB enc e sz w g v l)(a_:P.underlying t=some (.slice e))(he:ey P e=some (fT,sz,by_,z))(dN:∀x,(enc x).length=sz){k:IntKind}{n:Int}(i:Nat)(aR:n=(i:Int))(ar:i<l.length):
 ∃b off x,(∀w,(Instr.indexAt t v (.int k n)).run P w=.ok (ptr b off) w)/\l[i]?=some x/\g=b+1/\Row w b off (enc x) /\
  ∀aZ,jB enc e sz aZ g v l->∃A C,A.length=off/\aZ.heap[b]?=some (.cells (A++enc x++C).toArray e (0,0))/\∀(qY:α) (ao:World),ao.heap[b]?=some (.cells (A++enc qY++C).toArray e (0,0))->jB enc e sz ao g v (l.set i qY):=by
 have hW:=h.cj;rcases h with ⟨a,rfl,rfl,rfl⟩|⟨b,off,cap,X,Y,rfl,rfl,aV,rP,uT,wD,sV⟩
 . simp at ar
 . obtain⟨sf,RU,a',ab,rL⟩:=hW.at a_ he dN (k:=k) i aR ar;have bK:(0:Int)<=n/\n<(l.length:Int):=(by omega);have fU:n.toNat=i:=by omega
   have cY:(Instr.indexAt t (.slice (some ⟨b,off*sz,none⟩) l.length cap) (.int k n)).run P w=.ok (ptr b (off*sz+i*sz)) w:=by
    simp[Instr.indexAt,asIntOf,run_underlying a_,bK,run_sizeOf he,add_lit,ptr,fU]
   have heq:=(a' w).symm.trans cY;simp only[ptr,Result.ok.injEq,Value.pointer.injEq,Option.some.injEq,Addr.mk.injEq,and_true] at heq;obtain⟨rfl,rfl⟩:=heq;refine⟨_,_,l[i],a',by simp,rfl,rL,λaZ ah=>?_⟩;rcases ah with ⟨_,_,_,ag⟩|⟨aQ,pn,Ae,WM,WN,s_,bt,ahQ,WO,HH,ahR,ahS⟩
   . omega
   . simp only[Value.slice.injEq,Option.some.injEq,Addr.mk.injEq,and_true,true_and] at bt;obtain⟨⟨rfl,tU⟩,rfl⟩:=bt;have tJ:=rA dN (l.take i);rw[List.length_take,Nat.min_eq_left aa] at tJ;refine⟨WM++(l.take i).flatMap enc,(l.drop (i+1)).flatMap enc++WN,by rw[List.length_append,WO,tJ,tU],?_,λqY ao ahT=>?_⟩
     . rw[ahQ];rw[ahP (enc:=enc) l i ar];simp only[List.append_assoc]
     . refine .inr ⟨sf,pn,cap,WM,WN,rfl,?_,?_,WO,by rw[List.length_set];exact HH,by rw[List.length_set];exact ahR,ahS⟩
       . rw[List.length_set,tU]
       . rw[ahT];congr 3
         rw[List.set_eq_take_append_cons_drop,if_pos ar];simp[List.flatMap_append,List.flatMap_cons,List.append_assoc]
theorem gB.ahU{P:Program}{E:Env}{d:Option Tmp}{ty:TypeId}{pos:String}{af:Array Edge}{gd:Option (Nat×Bool)}{K:Value->World->Prop}{t:TypeId}{x y:Operand}{u:Value}{b off by_ i:Nat}{fT:Bool}{z:List Value}{n3:α}
 (h:jB enc e sz w g v l) (aV:g=b+1) (m':∀aZ,jB enc e sz aZ g v l->∃A C,A.length=off/\aZ.heap[b]?=some (.cells (A++enc n3++C).toArray e (0,0))/\∀(qY:α) (ao:World),ao.heap[b]?=some (.cells (A++enc qY++C).toArray e (0,0))->jB enc e sz ao g v (l.set i qY))
 (dN:∀x,(enc x).length=sz) (eh:∀x,(enc x).all (·.oneCell')=true) (qY:α) (a_:ey P t=some (fT,sz,by_,z)) (ag:aO E x=some (ptr b off)) (aE:aO E y=some u) (cK:u.cells.toList=enc qY)
 (eU:∀ao,Mod (b3 g) w ao->ao.heap.size=w.heap.size->jB enc e sz ao g v (l.set i qY)->K undef ao):gB P ⟨d,.store t x y,ty,pos,af,gd⟩ E w K:=λa ay=>by
 obtain⟨A,C,h1,ah,aB⟩:=m' w h
 subst h1 aV
 obtain⟨ao,d_,q2,fE,gx⟩:=NA (P:=P) (vs:=enc qY) ah (by rw[dN,dN]) (λu hu=>List.all_eq_true.1 (eh qY) u hu)
 have aT:u.cells.size=sz:=by rw[<-Array.length_toList,cK,dN]
 have hk:=eU ao (fE.weaken λi ar _=>by unfold b3;omega) gx (aB qY ao q2)
 simp[execOp,ay.aO ag,ay.aO aE,ptr,Instr.storeAt,Instr.sureAddr,storeVar,run_sizeOf a_,aT,cK,d_,out]
 exact hk
theorem WQ{z:Array Value}{x:α}(cO:z.toList=enc x)(bK:0<z.size):∀n:Nat,(Builtin.zeroCells z n).toList=(List.replicate n x).flatMap enc
 | 0=>by simp[Builtin.zeroCells]
 | n+1=>by
  have cc:=WQ cO bK n
  rw[List.replicate_succ',List.flatMap_append,<-cc]
  unfold Builtin.zeroCells
  simp only[Array.toList_map,Array.toList_range,Nat.add_mul,Nat.one_mul,List.flatMap_cons,List.flatMap_nil,List.append_nil]
  rw[List.range_add,List.map_append,<-cO]
  congr 1
  rw[List.map_map]
  apply List.ext_getElem
  . simp
  . intro j h1 ah
    simp only[List.getElem_map,List.getElem_range,Function.comp_apply,Array.getElem_toList]
    have bo:j<z.size:=by simpa using ah
    rw[Nat.mul_comm,Nat.mul_add_mod,Nat.mod_eq_of_lt bo,getElem!_pos z j bo]
theorem gB.ahV{P:Program}{E:Env}{d:Option Tmp}{ty:TypeId}{pos:String}{af:Array Edge}{gd:Option (Nat×Bool)}{K:Value->World->Prop}{t:TypeId}{x:Operand}{by_:Nat}{fT:Bool}{z:List Value}{jS:Value}{v2:Value}{k:IntKind}{n:Int}{i:Nat}
 (h:jB enc e sz w g v l) (a_:P.underlying t=some (.slice e)) (he:ey P e=some (fT,sz,by_,z)) (dN:∀x,(enc x).length=sz) (eh:∀x,(enc x).all (·.oneCell')=true) (CO:0<sz) (aR:n=(i:Int)) (ar:i<=l.length)
 (ki:∀w,(Instr.sliceAt t v (some (.int k n)) none none).run P w=.ok v2 w) (C2:α) (cO:∀w,(zeroValue e).run P w=.ok jS w) (Iz:jS.cells.toList=enc C2) (ag:aO E x=some v2)
 (eU:∀ao,Mod (b3 g) w ao->ao.heap.size=w.heap.size->jB enc e sz ao g v (l.take i++List.replicate (l.length-i) C2)->K (.tuple #[]) ao):gB P ⟨d,.call { callee:=.builtin .clear,args:=#[x],argTypes:=#[t] },ty,pos,af,gd⟩ E w K:=λs ay=>by
 have vZ:jS.cells.size=sz:=by rw[<-Array.length_toList,Iz,dN]
 rcases h with ⟨a,rfl,rfl,rfl⟩|⟨b,off,cap,X,Y,rfl,rfl,aV,rP,uT,wD,sV⟩
 . have vh:i=0:=by simpa using ar
   subst vh
   have je:=(ki w).symm.trans (show(Instr.sliceAt t (.slice a 0 0) (some (.int k n)) none none).run P w=.ok (.slice a 0 0) w by
    simp[Instr.sliceAt,Instr.slice,run_underlying a_,C1 (n:=0) (cap:=0) 0 0 (.inr ⟨k,n,rfl,aR⟩) (.inl ⟨rfl,rfl⟩) (Nat.le_refl _) (Nat.le_refl _) (Nat.le_refl _) w,run_sizeOf he])
   simp only[Result.ok.injEq,and_true] at je
   subst je
   have hk:=eU w (Mod.refl _ _) rfl (.inl ⟨a,rfl,by simp,rfl⟩)
   cases a<;>simp[execOp,resolve,invoke,builtin,ay.aO ag,Builtin.clear_,run_underlying a_,out]<;>exact hk
 . have ab:=C1 (P:=P) (n:=l.length) (cap:=cap) i l.length (.inr ⟨k,n,rfl,aR⟩) (.inl ⟨rfl,rfl⟩) ar (Nat.le_refl _) uT w
   have je:=(ki w).symm.trans (show(Instr.sliceAt t (.slice (some ⟨b,off*sz,none⟩) l.length cap) (some (.int k n)) none none).run P w=.ok (.slice (if cap=i then some ⟨b,off*sz,none⟩ else some ⟨b,off*sz+i*sz,none⟩) (l.length-i) (cap-i)) w by
    simp[Instr.sliceAt,Instr.slice,run_underlying a_,ab,run_sizeOf he,Addr.add_lit])
   simp only[Result.ok.injEq,and_true] at je
   subst je
   by_cases I0:l.length-i=0
   . have dk:l.take i++List.replicate (l.length-i) C2=l:=by rw[I0,List.take_of_length_le aa];simp
     have hk:=eU w (Mod.refl _ _) rfl (by rw[dk];exact .inr ⟨b,off,cap,X,Y,rfl,rfl,aV,rP,uT,wD,sV⟩)
     rw[I0] at ag
     by_cases al:cap=i
     . simp[al] at ag
       simp[execOp,resolve,invoke,builtin,ay.aO ag,Builtin.clear_,run_underlying a_,out];exact hk
     . simp[al] at ag
       simp[execOp,resolve,invoke,builtin,ay.aO ag,Builtin.clear_,run_underlying a_,out];exact hk
   . have al:cap≠i:=by omega
     have C3:=rA dN (l.take i)
     rw[List.length_take,Nat.min_eq_left ar] at C3
     have ss:=rA dN (l.drop i)
     rw[List.length_drop] at ss
     have vV:(Builtin.zeroCells jS.cells (l.length-i)).toList=(List.replicate (l.length-i) C2).flatMap enc:=WQ Iz aa _
     have Hr:=rA dN (List.replicate (l.length-i) C2)
     rw[List.length_replicate] at Hr
     obtain⟨ao,d_,q2,fE,gx⟩:=NA (P:=P) (A:=X++(l.take i).flatMap enc) (B:=(l.drop i).flatMap enc) (C:=Y) (vs:=(List.replicate (l.length-i) C2).flatMap enc) (b:=b) (e:=e) (w:=w) (by rw[List.append_assoc X,<-IZ];exact aV) (by rw[Hr,ss]) (λu hu=>by
      obtain⟨x,_,ag⟩:=List.mem_flatMap.1 hu
      exact List.all_eq_true.1 (eh x) u ag)
     rw[List.length_append,rP,C3] at d_
     have hk:=eU ao (fE.weaken λi ar _=>by unfold b3;omega) gx (.inr ⟨b,off,cap,X,Y,rfl,by simp[Nat.min_eq_left ar];omega,by rw[q2,List.flatMap_append,List.append_assoc X],rP,by simp[Nat.min_eq_left ar];omega,by rw[wD];congr 1;simp[Nat.min_eq_left ar];omega,sV⟩)
     simp only[if_neg al] at ag
     obtain⟨q,dM⟩:∃q,l.length-i=q+1:=⟨l.length-i-1,by omega⟩
     rw[<-vV] at d_
     rw[dM] at ag d_
     simp[execOp,resolve,invoke,builtin,ay.aO ag,Builtin.clear_,run_underlying a_,cO,d_,out]
     exact hk
end
section
variable {R bV:Nat->Prop} {w0 w ao:World} {L:List (dr R)} {i:Nat} {α:Type} {enc:α->List Value} {e:TypeId} {sz:Nat} {v:Value} {l:List α}
def lB(enc:α->List Value)(e:TypeId)(sz:Nat)(v:Value)(l:List α):dr R:=
 ⟨λF w=>∃g,jB enc e sz w g v l/\∀b,b+1=g->F b,λ⟨g,h1,ah⟩ hm bs _=>⟨g,h1.keep hm λb ab=>bs b (ah b ab.symm),ah⟩⟩
theorem au.C4(h:au R bV w0 w L)(ar:L[i]?=some (lB enc e sz v l)):∃g,jB enc e sz w g v l/\g<=w.heap.size/\∀(ao:World) (fz:Nat) (gT:Value) (jU:List α),Mod (b3 g) w ao->jB enc e sz ao fz gT jU->(fz=g\/fz=0\/w.heap.size<fz)->au R bV w0 ao (L.set i (lB enc e sz gT jU)):=by
 obtain⟨F,⟨g,h1,aB⟩,ah,k⟩:=h.act ar;refine⟨g,h1,h1.lt,λao fz gT jU hm ay aV=>k ao (λb=>b+1=fz) _ (hm.weaken λb ab _=>aB b ab) ⟨fz,ay,λb ab=>ab⟩ λb ab=>⟨?_,?_⟩⟩
 . have:=ay.lt;omega
 . rcases aV with aV|aV|aV
   . exact .inl (aB b aa)
   . omega
   . exact .inr aa
theorem au.Ff(h:au R bV w0 w L)(ar:L[i]?=some (lB enc e sz v l)):aq enc w (dq 0 w.heap.size) v l:=by
 obtain⟨g,h1,ah,_⟩:=h.C4 ar;exact h1.cj.cz (Nat.zero_le _) ah
theorem ahW{F:Nat->Prop}(h:(lB (R:=R) enc e sz v l).p F w):aq enc w F v l:=by
 obtain⟨g,h1,ah⟩:=h;refine h1.cj.mono λb ab=>ah b ?_
 rcases h1 with ⟨_,_,_,bH⟩|⟨sf,off,cap,X,Y,bK,_⟩
 . unfold dq at ab;omega
 . unfold dq at ab;omega
end
end Go.aG
namespace Go.ak
open Go.aG
structure bb where
 slot:Int
 query:Int
 shard:Int
 seq:Int
 ga:Int
 text:aj
 k:Int
 batch:Int
 first:Bool
 after:b4
 deriving DecidableEq
def I1(a b c d e:Int)(t:aj)(k n:Int)(f:Bool)(x:Int)(s:aj):bb:=⟨a,b,c,d,e,t,k,n,f,⟨x,s⟩⟩
def ej(a:bb):List Value:=[.int .i64 a.slot,.int .i64 a.query,.int .i64 a.shard,.int .i64 a.seq,.int .i64 a.ga,aD a.text,.int .i64 a.k,.int .i64 a.batch,.bool a.first,.int .i64 a.after.cp,aD a.after.word]
theorem pE(a:bb):(ej a).length=11:=rfl
theorem AW(a:bb):(ej a).all (·.oneCell')=true:=rfl
def k_(a:bb):Value:=.agg (ej a).toArray
def NC:bb:=⟨0,0,0,0,0,[],0,0,false,⟨0,[]⟩⟩
def bb.pl(a:bb):Int×Int:=(a.slot,a.shard)
def k0(p:Int×Int):List Value:=[.int .i64 p.1,.int .i64 p.2]
theorem vj(p:Int×Int):(k0 p).length=2:=rfl
theorem ND(p:Int×Int):(k0 p).all (·.oneCell')=true:=rfl
def lC(p:Int×Int):Value:=.agg #[.int .i64 p.1,.int .i64 p.2]
structure bb.Ok(a:bb):Prop where
 slot:b6 a.slot
 query:b6 a.query
 shard:b6 a.shard
 seq:b6 a.seq
 ga:b6 a.ga
 k:b6 a.k
 batch:b6 a.batch
 cp:b6 a.after.cp
def I2(a:bb):Bool:=decide (0<=a.slot/\a.slot<4/\0<=a.shard/\a.shard<6)
def k'(q:List bb)(p:Int×Int):Option bb:=q.find? λx=>decide (x.pl=p)
def Fg(x a:bb):Bool:=decide (x.query>a.query\/x.query=a.query/\x.seq>a.seq)
def nm(q:List bb)(a:bb):Bool:=I2 a && (match k' q a.pl with|some x=>!Fg x a|none=>true)
def gg(q:List bb)(a:bb):List bb:=
 if nm q a=true then(match k' q a.pl with|some _=>q.map λx=>if x.pl=a.pl then a else x|none=>q++[a]) else q
def uh(slot query:Int)(x:bb):Bool:=decide (x.slot=slot/\x.query<=query)
def la(q:List bb)(slot query:Int):List bb:=q.filter λx=>!uh slot query x
structure jr(m:List ((Int×Int)×bb))(q:List bb):Prop where
 keys:(m.map Prod.fst).Nodup
 at_:∀p,gw m p=k' q p
 vk:(q.map bb.pl).Nodup
theorem jr.nil:jr [] []:=⟨by simp,λp=>rfl,by simp⟩
section
variable {α β:Type} [DecidableEq α]
theorem WR(m:List (α×β))(a b:α)(u:β):gw (lA m a u) b=if a=b then some u else gw m b:=by
 induction m with
 | nil =>
  unfold lA;rw[p9]
 | cons p m cc =>
  unfold lA;by_cases h:p.1=a
  . rw[if_pos h,p9,p9];by_cases ab:a=b
    . rw[if_pos ab,if_pos ab]
    . rw[if_neg ab,if_neg ab,if_neg (λe=>ab (h.symm.trans e))]
  . rw[if_neg h,p9,p9,cc];by_cases ab:a=b
    . rw[if_pos ab,if_neg (λe=>h (e.trans ab.symm)),if_pos ab]
    . rw[if_neg ab,if_neg ab]
theorem ahX(m:List (α×β))(a:α)(u:β):(lA m a u).map Prod.fst=if a∈m.map Prod.fst then m.map Prod.fst else m.map Prod.fst++[a]:=by
 induction m with
 | nil=>simp[lA]
 | cons p m cc =>
  unfold lA;by_cases h:p.1=a
  . rw[if_pos h];simp[h]
  . rw[if_neg h,List.map_cons,cc];by_cases hm:a∈m.map Prod.fst
    . rw[if_pos hm,if_pos (by simp only[List.map_cons,List.mem_cons];exact .inr hm)];rfl
    . rw[if_neg hm,if_neg (by simp only[List.map_cons,List.mem_cons,not_or];exact⟨λe=>h e.symm,hm⟩)];rfl
theorem WS{m:List (α×β)}{a:α}{u:β}(h:(m.map Prod.fst).Nodup):((lA m a u).map Prod.fst).Nodup:=by
 rw[ahX];split
 . exact h
 . rename_i hm;rw[List.nodup_append];exact⟨h,by simp,λx ag y aE=>by simp only[List.mem_singleton] at aE;subst aE;exact λe=>hm (e▸ag)⟩
theorem ahY(m:List (α×β))(a:α):(ma m a).Sublist m:=by
 induction m with
 | nil=>exact List.Sublist.refl _
 | cons p m cc =>
  unfold ma;split
  . exact List.sublist_cons_self _ _
  . exact cc.cons_cons _
theorem Na{m:List (α×β)}{a:α}(h:a∉m.map Prod.fst):gw m a=none:=by
 induction m with
 | nil=>rfl
 | cons p m cc =>
  simp only[List.map_cons,List.mem_cons,not_or] at h;rw[p9,if_neg (λe=>h.1 e.symm),cc h.2]
theorem ahZ{m:List (α×β)}(h:(m.map Prod.fst).Nodup)(a b:α):gw (ma m a) b=if a=b then none else gw m b:=by
 induction m with
 | nil=>simp[ma,ahG]
 | cons p m cc =>
  rw[List.map_cons,List.nodup_cons] at h;unfold ma;by_cases hp:p.1=a
  . rw[if_pos hp,p9];by_cases ab:a=b
    . rw[if_pos ab,<-ab,<-hp];exact Na h.1
    . rw[if_neg ab,if_neg (λe=>ab (hp.symm.trans e))]
  . rw[if_neg hp,p9,p9,cc h.2];by_cases ab:a=b
    . rw[if_pos ab,if_neg (λe=>hp (e.trans ab.symm)),if_pos ab]
    . rw[if_neg ab,if_neg ab]
theorem ah0{m:List (α×β)}{a:α}(h:(m.map Prod.fst).Nodup):((ma m a).map Prod.fst).Nodup:=h.sublist ((ahY m a).map _)
end
theorem I3{q:List bb}(h:(q.map bb.pl).Nodup){x:bb}(ag:x∈q):k' q x.pl=some x:=by
 induction q with
 | nil=>simp at ag
 | cons y q cc =>
  rw[List.map_cons,List.nodup_cons] at h;unfold k';rw[List.find?_cons];by_cases e:y.pl=x.pl
  . rcases List.mem_cons.1 ag with rfl|ag
    . simp
    . exact absurd (List.mem_map.2 ⟨x,ag,e.symm⟩) h.1
  . rcases List.mem_cons.1 ag with rfl|ag
    . exact absurd rfl e
    . rw[decide_eq_false e];exact cc h.2 ag
theorem ah1(q:List bb)(a:bb)(p:Int×Int):k' (q++[a]) p=match k' q p with|some x=>some x|none=>if a.pl=p then some a else none:=by
 unfold k';rw[List.find?_append]
 cases q.find? (λx=>decide (x.pl=p)) with
 | some x=>rfl
 | none =>
  by_cases h:a.pl=p
  . simp[h]
  . simp[h]
theorem ah2{q:List bb}{p:Int×Int}(h:k' q p=none):p∉q.map bb.pl:=λhm=>by
 obtain⟨x,ag,rfl⟩:=List.mem_map.1 hm
 have:=List.find?_eq_none.1 h x ag
 simp at this
theorem NF(q:List bb)(a:bb):(q.map λx=>if x.pl=a.pl then a else x).map bb.pl=q.map bb.pl:=by
 rw[List.map_map];refine List.map_congr_left λx _=>?_
 simp only[Function.comp_apply];split
 . rename_i h;exact h.symm
 . rfl
theorem ah3{q:List bb}{a:bb}(p:Int×Int):k' (q.map λx=>if x.pl=a.pl then a else x) p=if a.pl=p then(match k' q p with|some _=>some a|none=>none) else k' q p:=by
 induction q with
 | nil=>unfold k';simp
 | cons y q cc =>
  unfold k' at cc ⊢;rw[List.map_cons,List.find?_cons,List.find?_cons];by_cases aE:y.pl=a.pl
  . rw[if_pos aE];by_cases hp:a.pl=p
    . simp[hp,aE.trans hp]
    . rw[if_neg hp] at cc;simp only[decide_eq_false hp,decide_eq_false (show ¬ y.pl=p from λe=>hp (aE.symm.trans e)),if_neg hp];exact cc
  . rw[if_neg aE];by_cases hp:y.pl=p
    . simp only[decide_eq_true hp];rw[if_neg (λe=>aE (hp.trans e.symm))]
    . simp only[decide_eq_false hp];exact cc
theorem jr.put{m:List ((Int×Int)×bb)}{q:List bb}{a x:bb}(h:jr m q)(ag:k' q a.pl=some x):jr (lA m a.pl a) (q.map λx=>if x.pl=a.pl then a else x):=by
 refine⟨WS h.keys,λp=>?_,by rw[NF];exact h.vk⟩;rw[WR,ah3,h.at_];by_cases hp:a.pl=p
 . rw[if_pos hp,if_pos hp,<-hp,ag]
 . rw[if_neg hp,if_neg hp]
theorem jr.add{m:List ((Int×Int)×bb)}{q:List bb}{a:bb}(h:jr m q)(ag:k' q a.pl=none):jr (lA m a.pl a) (q++[a]):=by
 refine⟨WS h.keys,λp=>?_,?_⟩
 . rw[WR,ah1,h.at_];by_cases hp:a.pl=p
   . rw[if_pos hp,<-hp,ag];simp
   . rw[if_neg hp]
     cases k' q p with
     | some _=>rfl
     | none=>simp[hp]
 . rw[List.map_append,List.nodup_append];exact⟨h.vk,by simp,λx s' y aE=>by simp only[List.map_cons,List.map_nil,List.mem_singleton] at aE;subst aE;exact λe=>ah2 ag (e▸s')⟩
theorem ah4{q:List bb}(h:(q.map bb.pl).Nodup){a:bb}(p:Int×Int):k' (q.filter λx=>decide (x.pl≠a.pl)) p=if a.pl=p then none else k' q p:=by
 induction q with
 | nil=>unfold k';simp
 | cons y q cc =>
  rw[List.map_cons,List.nodup_cons] at h;have cc:=cc h.2;unfold k' at cc ⊢;rw[List.filter_cons,List.find?_cons];by_cases aE:y.pl=a.pl
  . rw[if_neg (by simp[aE]),cc];by_cases hp:a.pl=p
    . rw[if_pos hp,if_pos hp]
    . rw[if_neg hp,if_neg hp,decide_eq_false (λe=>hp (aE.symm.trans e))]
  . rw[if_pos (by simp[aE]),List.find?_cons];by_cases hp:y.pl=p
    . rw[decide_eq_true hp];simp only;rw[if_neg (λe=>aE (hp.trans e.symm))]
    . rw[decide_eq_false hp];simp only;exact cc
theorem jr.del{m:List ((Int×Int)×bb)}{q:List bb}{a:bb}(h:jr m q):jr (ma m a.pl) (q.filter λx=>decide (x.pl≠a.pl)):=by
 refine⟨ah0 h.keys,λp=>?_,h.vk.sublist ((List.filter_sublist).map _)⟩;rw[ahZ h.keys,ah4 h.vk,h.at_]
theorem WT{q:List bb}{a:bb}(h:((a::q).map bb.pl).Nodup):(a::q).filter (λx=>decide (x.pl≠a.pl))=q:=by
 rw[List.map_cons,List.nodup_cons] at h;rw[List.filter_cons_of_neg dh,List.filter_eq_self.2];intro x ag;simp only[ne_eq,decide_eq_true_eq];exact λe=>h.1 (List.mem_map.2 ⟨x,ag,e⟩)
theorem jr.pop{m:List ((Int×Int)×bb)}{q:List bb}{a:bb}(h:jr m (a::q)):jr (ma m a.pl) q:=by
 have:=h.del (a:=a);rwa[WT h.vk] at this
theorem jr.head{m:List ((Int×Int)×bb)}{q:List bb}{a:bb}(h:jr m (a::q)):gw m a.pl=some a:=by
 rw[h.at_];exact I3 h.vk dh
theorem jr.mem{m:List ((Int×Int)×bb)}{q:List bb}{a:bb}(h:jr m q)(ay:a∈q):gw m a.pl=some a:=by
 rw[h.at_];exact I3 h.vk ay
theorem jr.Cg{m:List ((Int×Int)×bb)}{q:List bb}{k:Nat}{p:Int×Int}(h:jr m q)(hp:(q.map bb.pl)[k]?=some p):∃a,q[k]?=some a/\a.pl=p/\gw m p=some a:=by
 rw[List.getElem?_map] at hp
 cases ay:q[k]? with
 | none=>rw[ay] at hp;cases hp
 | some a =>
  rw[ay] at hp;simp only[Option.map_some,Option.some.injEq] at hp;subst hp;exact⟨a,rfl,rfl,h.mem (List.mem_of_getElem? ay)⟩
section
variable {b9 α:Type}
def kQ(f:b9->α->b9×Bool)(s:b9)(l:List α):b9:=l.foldl (λs x=>(f s x).1) s
def oV(f:b9->α->b9×Bool):b9->List α->List α
 | _,[]=>[]
 | s,x::r=>(if (f s x).2=true then[] else[x])++oV f (f s x).1 r
theorem ah5(f:b9->α->b9×Bool)(s:b9)(l:List α)(x:α):kQ f s (l++[x])=(f (kQ f s l) x).1:=by unfold kQ;rw[List.foldl_append];rfl
theorem WU(f:b9->α->b9×Bool):∀(l:List α) (s:b9) (x:α),oV f s (l++[x])=oV f s l++(if (f (kQ f s l) x).2=true then[] else[x])
 | [],s,x=>by show(if (f s x).2=true then[] else[x])++[]=[]++(if (f s x).2=true then[] else[x]);simp
 | y::l,s,x=>by
  simp only[List.cons_append,oV]
  rw[WU f l]
  simp only[List.append_assoc];rfl
def AX(ok:b9->α->Prop)(f:b9->α->b9×Bool):b9->List α->Prop
 | _,[]=>True
 | s,x::r=>ok s x/\AX ok f (f s x).1 r
theorem AX.get{ok:b9->α->Prop}{f:b9->α->b9×Bool}:∀{l:List α} {s:b9} {k:Nat} {x:α},AX ok f s l->l[k]?=some x->ok (kQ f s (l.take k)) x
 | [],s,k,x,_,ag=>by simp at ag
 | y::l,s,0,x,h,ag=>by
  simp only[List.getElem?_cons_zero,Option.some.injEq] at ag
  subst ag;exact h.1
 | y::l,s,k+1,x,h,ag=>by
  simp only[List.getElem?_cons_succ] at ag
  exact AX.get (l:=l) (s:=(f s y).1) (k:=k) h.2 ag
theorem I4{f:b9->α->b9×Bool}{s:b9}{l:List α}{k:Nat}{x:α}(ag:l[k]?=some x):kQ f s (l.take (k+1))=(f (kQ f s (l.take k)) x).1:=by
 rw[List.take_add_one,ag];exact ah5 f s _ x
theorem I5{f:b9->α->b9×Bool}{s:b9}{l:List α}{k:Nat}{x:α}(ag:l[k]?=some x):oV f s (l.take (k+1))=oV f s (l.take k)++(if (f (kQ f s (l.take k)) x).2=true then[] else[x]):=by
 rw[List.take_add_one,ag];exact WU f _ s x
end
def lO(slot query:Int)(q:List bb)(p:Int×Int):List bb×Bool:=
 match k' q p with
 | some x=>if uh slot query x=true then(q.filter (λy=>decide (y.pl≠p)),true) else(q,false)
 | none=>(q,false)
def I6(q:List bb)(p:Int×Int):Prop:=∃x,x∈q/\x.pl=p/\(q.map bb.pl).Nodup
theorem NG(slot query:Int):∀(r a:List bb),((a++r).map bb.pl).Nodup->(∀x∈a,uh slot query x=false) ->
 AX I6 (lO slot query) (a++r) (r.map bb.pl)/\kQ (lO slot query) (a++r) (r.map bb.pl)=a++la r slot query/\oV (lO slot query) (a++r) (r.map bb.pl)=(la r slot query).map bb.pl
 | [],a,_,_=>⟨trivial,by simp[kQ,la],rfl⟩
 | x::r,a,aR,ay=>by
  have ag:x∈a++x::r:=by simp
  have m':=I3 aR ag
  have bW:I6 (a++x::r) x.pl:=⟨x,ag,rfl,aR⟩
  cases tU:uh slot query x with
  | true =>
   have bD:lO slot query (a++x::r) x.pl=((a++x::r).filter (λy=>decide (y.pl≠x.pl)),true):=by
    unfold lO;rw[m'];simp only;rw[if_pos tU]
   have he:(a++x::r).filter (λy=>decide (y.pl≠x.pl))=a++r:=by
    rw[List.map_append,List.nodup_append] at aR
    rw[List.filter_append,List.filter_eq_self.2,WT aR.2.1]
    intro y aE
    simp only[ne_eq,decide_eq_true_eq]
    exact λe=>aR.2.2 _ (List.mem_map.2 ⟨y,aE,rfl⟩) _ dh e
   rw[he] at bD
   have tj:((a++r).map bb.pl).Nodup:=aR.sublist (List.Sublist.map _ ((List.Sublist.refl a).append (List.sublist_cons_self x r)))
   obtain⟨h1,ah,aB⟩:=NG slot query r a tj ay
   refine⟨⟨bW,by rw[bD];exact h1⟩,?_,?_⟩
   . rw[List.map_cons]
     show kQ (lO slot query) (lO slot query (a++x::r) x.pl).1 (r.map bb.pl)=_
     rw[bD,ah]
     unfold la
     rw[List.filter_cons_of_neg (by simp[tU])]
   . rw[List.map_cons]
     show(if (lO slot query (a++x::r) x.pl).2=true then[] else[x.pl])++oV (lO slot query) (lO slot query (a++x::r) x.pl).1 (r.map bb.pl)=_
     rw[bD,aB]
     unfold la
     rw[List.filter_cons_of_neg (by simp[tU])];rfl
  | false =>
   have bD:lO slot query (a++x::r) x.pl=(a++x::r,false):=by
    unfold lO;rw[m'];simp only;rw[tU];rfl
   have fU:a++x::r=(a++[x])++r:=by simp
   obtain⟨h1,ah,aB⟩:=NG slot query r (a++[x]) (by rw[<-fU];exact aR) (λy aE=>by
    rcases List.mem_append.1 aE with aE|aE
    . exact ay y aE
    . simp only[List.mem_singleton] at aE;subst aE;exact tU)
   rw[<-fU] at h1 ah aB
   refine⟨⟨bW,by rw[bD];exact h1⟩,?_,?_⟩
   . rw[List.map_cons]
     show kQ (lO slot query) (lO slot query (a++x::r) x.pl).1 (r.map bb.pl)=_
     rw[bD,ah]
     unfold la
     rw[List.filter_cons_of_pos (by simp[tU])];simp
   . rw[List.map_cons]
     show(if (lO slot query (a++x::r) x.pl).2=true then[] else[x.pl])++oV (lO slot query) (lO slot query (a++x::r) x.pl).1 (r.map bb.pl)=_
     rw[bD,aB]
     unfold la
     rw[List.filter_cons_of_pos (by simp[tU])];rfl
end Go.ak
namespace Go.aG
open Go Go.ak
def j1{R:Nat->Prop}(lD o9:TypeId)(dc:Nat)(q:List bb):dr R:=nF λx:Value×Nat×List ((Int×Int)×bb)=>ps (jr x.2.2 q) (bh [aw dc [x.1,.map (some x.2.1)] lD,lB k0 o9 2 x.1 (q.map bb.pl),jq lC k_ x.2.1 x.2.2])
theorem au.ui{R bV:Nat->Prop}{w0 w:World}{L:List (dr R)}{lD o9:TypeId}{dc iQ:Nat}{q:List bb}{m:List ((Int×Int)×bb)}{mO:Value}(h:au R bV w0 w L)(i:Nat)(ar:L[i]?=some (bh [aw dc [mO,.map (some iQ)] lD,lB k0 o9 2 mO (q.map bb.pl),jq lC k_ iQ m]))(dM:jr m q):au R bV w0 w (L.set i (j1 lD o9 dc q)):=h.imp ar λF x=>⟨(mO,iQ,m),dM,x⟩
def I7{R:Nat->Prop}(kX ah6 lD:TypeId)(rb kD oh dc iQ:Nat)(mO:Value)(slot query:Int)(q:List bb):dr R:=nF λm:List ((Int×Int)×bb)=>ps (jr m q) (bh [aw rb [.int .i64 slot] kX,aw kD [ptr dc 0] ah6,aw oh [.int .i64 query] kX,aw dc [mO,.map (some iQ)] lD,jq lC k_ iQ m])
structure NH(P:Program){b9 α:Type}(kO:FuncId)(first cap:List Value)(val:α->Value)(A:b9->dr (λ_=>False))(ok:b9->α->Prop)(f:b9->α->b9×Bool):Prop where
 cl:b8 P kO=true
 call:∀s F w x,(A s).p F w->(∀b,F b->b<w.heap.size)->ok s x->Calls P kO (first++[val x]++cap).toArray w (an λaC ao=>aC=.bool (f s x).2/\Mod F w ao/\∃F',(A (f s x).1).p F' ao/\∀b,F' b->b<ao.heap.size/\(F b\/w.heap.size<=b))
theorem ah7{slot query:Int}{q:List bb}{p:Int×Int}{x:bb}(ag:x∈q)(hp:x.pl=p)(aR:(q.map bb.pl).Nodup):lO slot query q p=if uh slot query x=true then(q.filter (λy=>decide (y.pl≠p)),true) else(q,false):=by
 subst hp;unfold lO;rw[I3 aR ag]
end Go.aG
namespace Go.ak
open Go.aG
structure vl{b9 α:Type}(f:b9->α->b9×Bool)(s:b9)(l:List α)(k:Nat):Prop where
 no:oV f s (l.take k)=l.take k
theorem vl.start{b9 α:Type}(f:b9->α->b9×Bool)(s:b9)(l:List α):vl f s l 0:=⟨rfl⟩
theorem vl.next{b9 α:Type}{f:b9->α->b9×Bool}{s:b9}{l:List α}{k:Nat}{x:α}(h:vl f s l k)(ag:l[k]?=some x)(ab:(f (kQ f s (l.take k)) x).2=false):vl f s l (k+1):=⟨by
 rw[I5 ag,ab,h.no,List.take_add_one,ag];rfl⟩
theorem vl.all{b9 α:Type}{f:b9->α->b9×Bool}{s:b9}{l:List α}{k:Nat}(h:vl f s l k)(hk:l.length<=k):oV f s l=l:=by
 have:=h.no;rwa[List.take_of_length_le hk] at this
structure su{b9 α:Type}(f:b9->α->b9×Bool)(s:b9)(l cur:List α)(i j:Nat):Prop where
 len:cur.length=l.length
 Fh:i<=j
 kept:cur.take i=oV f s (l.take j)
 rest:cur.drop j=l.drop j
theorem su.at{b9 α:Type}{f:b9->α->b9×Bool}{s:b9}{l cur:List α}{i j:Nat}(h:su f s l cur i j){x:α}(ag:cur[j]?=some x):l[j]?=some x:=by
 have h1:=congrArg (λz:List α=>z[0]?) h.rest;simp only[List.getElem?_drop,Nat.add_zero] at h1;rw[<-h1];exact ag
theorem su.start{b9 α:Type}{f:b9->α->b9×Bool}{s:b9}{l:List α}{k:Nat}{x:α}(h:vl f s l k)(ag:l[k]?=some x)(ab:(f (kQ f s (l.take k)) x).2=true):su f s l l k (k+1):=⟨rfl,Nat.le_succ _,by rw[I5 ag,ab,h.no];simp,rfl⟩
theorem su.off{b9 α:Type}{f:b9->α->b9×Bool}{s:b9}{l cur:List α}{i j:Nat}(h:su f s l cur i j){x:α}(ag:l[j]?=some x)(ab:(f (kQ f s (l.take j)) x).2=true):su f s l cur i (j+1):=
 ⟨h.len,Nat.le_succ_of_le h.Fh,by rw[I5 ag,ab,h.kept];simp,by rw[<-List.drop_drop,h.rest,List.drop_drop]⟩
theorem su.on{b9 α:Type}{f:b9->α->b9×Bool}{s:b9}{l cur:List α}{i j:Nat}(h:su f s l cur i j){x:α}(ag:l[j]?=some x)(ab:(f (kQ f s (l.take j)) x).2=false):su f s l (cur.set i x) (i+1) (j+1):=by
 have bo:=(List.getElem?_eq_some_iff.1 ag).1;have ar:i<cur.length:=(by have:=h.Fh;have:=h.len;omega);refine⟨by rw[List.length_set];exact h.len,Nat.succ_le_succ h.Fh,?_,?_⟩
 . rw[I5 ag,ab,<-h.kept,List.take_add_one,List.getElem?_set_self ar,List.take_set_of_le (Nat.le_refl _)];rfl
 . rw[List.drop_set_of_lt (by have:=h.Fh;omega),<-List.drop_drop,h.rest,List.drop_drop]
theorem su.fin{b9 α:Type}{f:b9->α->b9×Bool}{s:b9}{l cur:List α}{i j:Nat}(h:su f s l cur i j)(bo:l.length<=j):cur.take i=oV f s l:=by rw[h.kept,List.take_of_length_le bo]
theorem ah8{x a:bb}:Fg x a=true↔x.query>a.query\/x.query=a.query/\x.seq>a.seq:=by unfold Fg;simp
theorem Fi{q:List bb}{a:bb}(h:¬ (0<=a.slot/\a.slot<4/\0<=a.shard/\a.shard<6)):nm q a=false/\gg q a=q:=by
 have:nm q a=false:=by unfold nm I2;rw[decide_eq_false h];rfl
 exact⟨this,by unfold gg;rw[this];rfl⟩
theorem NI{q:List bb}{a x:bb}(ag:k' q a.pl=some x)(h:x.query>a.query\/x.query=a.query/\x.seq>a.seq):nm q a=false/\gg q a=q:=by
 have:nm q a=false:=by unfold nm;rw[ag];simp only[ah8.2 h];simp
 exact⟨this,by unfold gg;rw[this];rfl⟩
theorem I8{q:List bb}{a x:bb}(a':0<=a.slot/\a.slot<4/\0<=a.shard/\a.shard<6)(ag:k' q a.pl=some x)(h:¬ (x.query>a.query\/x.query=a.query/\x.seq>a.seq)):nm q a=true/\gg q a=q.map λx=>if x.pl=a.pl then a else x:=by
 have aR:Fg x a=false:=(by unfold Fg;exact decide_eq_false h);have:nm q a=true:=by unfold nm I2;rw[ag,decide_eq_true a'];simp[aR]
 exact⟨this,by unfold gg;rw[if_pos this,ag]⟩
theorem WV{q:List bb}{a:bb}(a':0<=a.slot/\a.slot<4/\0<=a.shard/\a.shard<6)(ag:k' q a.pl=none):nm q a=true/\gg q a=q++[a]:=by
 have:nm q a=true:=by unfold nm I2;rw[ag,decide_eq_true a'];rfl
 exact⟨this,by unfold gg;rw[if_pos this,ag]⟩
theorem ah9(q:List bb)(slot query:Int):(la q slot query).length<=q.length:=List.length_filter_le _ _
theorem ah_{α:Type}{l o:List α}{i:Nat}{x:α}(h:o=l.take i)(ag:l[i]?=some x):o++[x]=l.take (i+1):=by
 rw[h,List.take_add_one,ag];rfl
end Go.ak
namespace Go.ak
open Go.aG
def WW(n:Int):Bool:=decide (0<=n/\n<=2147483647)
def vm(l:List Int):Bool:=l.all WW
def y9(x:b4):Bool:=decide (0<=x.cp/\x.cp<=4) && word x.word
def tk(slot shard:Int):Bool:=decide (0<=slot/\slot<4/\0<=shard/\shard<6)
def WX:b4:=⟨0,[]⟩
def wE(a:bb):Bool:=if a.first=true then decide (a.after=WX) else y9 a.after
def nN(a:bb):Bool:=wE a && tk a.slot a.shard && vm [a.query,a.seq,a.ga] && asked a.text && decide (0<=a.k/\a.k<=4/\1<=a.batch/\a.batch<=5)
theorem WY{l:List Int}{i:Nat}{x:Int}(ag:l[i]?=some x)(h:¬ (0<=x/\x<=2147483647)):false=vm l:=by
 symm;unfold vm;rw[List.all_eq_false];exact⟨x,List.mem_of_getElem? ag,by unfold WW;simpa using h⟩
theorem WZ{l:List Int}{i:Nat}(h:∀z∈l.take i,0<=z/\z<=2147483647)(ar:l.length<=i):true=vm l:=by
 symm;rw[List.take_of_length_le ar] at h;unfold vm;rw[List.all_eq_true];intro z cO;exact decide_eq_true (h z cO)
theorem W0{l:List Int}{i:Nat}{x:Int}(h:∀z∈l.take i,0<=z/\z<=2147483647)(ag:l[i]?=some x)(ah:0<=x/\x<=2147483647):∀z∈l.take (i+1),0<=z/\z<=2147483647:=by
 intro z cO;rw[List.take_add_one,ag] at cO;simp only[Option.toList_some,List.mem_append,List.mem_singleton] at cO;rcases cO with cO|rfl
 . exact h z cO
 . exact ah
theorem W1{x:b4}(h:¬ (0<=x.cp/\x.cp<=4)):false=y9 x:=by unfold y9;rw[decide_eq_false h];rfl
theorem W2{x:b4}{b:Bool}(h:0<=x.cp/\x.cp<=4)(ab:b=word x.word):b=y9 x:=by unfold y9;rw[decide_eq_true h,ab];rfl
theorem ah'{slot shard:Int}{b:Bool}{p:Prop}[Decidable p](ab:b=decide p)(h:p↔(0<=slot/\slot<4/\0<=shard/\shard<6)):b=tk slot shard:=by
 unfold tk;rw[ab];exact decide_eq_decide.2 h
theorem aia{slot shard:Int}(h:¬ (0<=slot/\slot<4/\0<=shard/\shard<6)):false=tk slot shard:=(decide_eq_false h).symm
theorem NJ{a:bb}{b:Bool}(h:a.first=true)(ab:b=decide (a.after=WX)):b=wE a:=by unfold wE;rw[if_pos h];exact ab
theorem NK{a:bb}{b:Bool}(h:a.first=false)(ab:b=y9 a.after):b=wE a:=by unfold wE;rw[h];exact ab
theorem aib{a:bb}(h:wE a=false):false=nN a:=by unfold nN;rw[h];rfl
theorem aic{a:bb}(h:tk a.slot a.shard=false):false=nN a:=by unfold nN;rw[h];simp
theorem aid{a:bb}(h:vm [a.query,a.seq,a.ga]=false):false=nN a:=by unfold nN;rw[h];simp
theorem aie{a:bb}(h:asked a.text=false):false=nN a:=by unfold nN;rw[h];simp
theorem aif{a:bb}(h:¬ (0<=a.k/\a.k<=4/\1<=a.batch/\a.batch<=5)):false=nN a:=by unfold nN;rw[decide_eq_false h];simp
theorem aih{a:bb}{b:Bool}(h1:wE a=true)(ah:tk a.slot a.shard=true)(aB:vm [a.query,a.seq,a.ga]=true)(bH:asked a.text=true)(c_:0<=a.k/\a.k<=4/\1<=a.batch)(ab:b=decide (a.batch<=5)):b=nN a:=by
 unfold nN;rw[h1,ah,aB,bH,ab];simp only[Bool.true_and];exact decide_eq_decide.2 aa
end Go.ak
namespace Go.aG
open Go
def Fj:Nat->Env->Option Value
 | _,[]=>none
 | i,(j,v)::r=>match Nat.beq i j with
  | true=>some v
  | false=>Fj i r
theorem NL:∀(i:Nat) (E:Env),Fj i E=mG i E
 | _,[]=>rfl
 | i,(j,v)::r=>by
  unfold Fj mG
  simp only
  cases Nat.beq i j with
  | true=>rfl
  | false=>exact NL i r
def xQ(E:Env):Operand->Option Value
 | .tmp t=>Fj t E
 | .const v=>some v
 | .global g=>some (.pointer (some ⟨g,0,none⟩))
 | .func f=>some (.func (.func f) #[] #[])
theorem AY(E:Env)(x:Operand):xQ E x=aO E x:=by
 cases x with
 | tmp t=>exact NL t E
 | _=>rfl
def I9(n:Nat)(ops:Array Oper)(E:Env):Option (Nat×Bool)->Option Bool
 | none=>some true
 | some (j,b)=>match (ops[j]?).bind (·.dst) with
  | some d=>match Fj d E with
   | some (.bool c)=>match Nat.blt d n with
    | true=>some (c==b)
    | false=>none
   | some (.tuple _)=>some false
   | _=>none
  | none=>none
theorem C5(n:Nat)(ops:Array Oper)(E:Env)(g:Option (Nat×Bool)):I9 n ops E g=want n ops E g:=by
 unfold I9 want;simp only[NL];rfl
def xR(E:Env):Op->Option Value
 | .move x=>xQ E x
 | .assign x=>xQ E x
 | .pick c x y=>match xQ E c with
  | some (.bool true)=>xQ E x
  | some (.bool false)=>xQ E y
  | _=>none
 | .extract x i=>match xQ E x with
  | some (.tuple vs)=>vs[i]?
  | _=>none
 | .nilCheck x=>match xQ E x with
  | some (.pointer (some ⟨b,o,none⟩))=>some (.pointer (some ⟨b,o,none⟩))
  | _=>none
 | _=>none
inductive y_ where
 | it (k:List Item)
 | op (ops:Array Oper) (l:List Oper) (k:List Item)
def go(n:Nat):Nat->y_->Env->Option (y_×Env)
 | 0,p,E=>some (p,E)
 | m+1,.it (.code (.seq x y)::k),E=>go n m (.it (.code x::.code y::k)) E
 | m+1,.it (.code .skip::k),E=>go n m (.it k) E
 | m+1,.it (.code (.block id c)::k),E=>go n m (.it (.code c::.inBlock id::k)) E
 | m+1,.it (.inBlock _::k),E=>go n m (.it k) E
 | m+1,.it (.code (.exit id)::k),E=>match exitTo id k with
  | some jy=>go n m (.it jy) E
  | none=>none
 | m+1,.it (.code (.cond c x y)::k),E=>match xQ E c with
  | some (.bool true)=>go n m (.it (.code x::k)) E
  | some (.bool false)=>go n m (.it (.code y::k)) E
  | _=>none
 | m+1,.it (.code (.region _ ops false)::k),E=>go n m (.op ops ops.toList k) E
 | m+1,.op _ [] k,E=>go n m (.it k) E
 | m+1,.op ops (o::l) k,E=>match ke n o.dst with
  | true=>match I9 n ops E o.guard with
   | some true=>match xR E o.op with
    | some v=>match o.dst with
     | some d=>go n m (.op ops l k) ((d,v)::E)
     | none=>go n m (.op ops l k) E
    | none=>none
   | some false=>match o.dst with
    | some d=>go n m (.op ops l k) ((d,undef)::E)
    | none=>go n m (.op ops l k) E
   | none=>none
  | false=>none
 | _+1,_,_=>none
section
variable {P:Program} {f:FuncId} {R:Ending->World->Prop} {n:Nat} {w:World}
def y_.h(P:Program)(f:FuncId)(R:Ending->World->Prop)(n:Nat)(w:World):y_->Env->Prop
 | .it k,E=>hx P f R n E k w
 | .op ops l k,E=>fK P f R n ops l E k w
theorem I_{E:Env}{C:World->Prop}{o:Oper}{v:Value}(h:xR E o.op=some v):bA P o E C v:=by
 obtain⟨d,op,ty,pos,af,gd⟩:=o
 cases op with
 | move x=>simp only[xR,AY] at h;exact bA.move h
 | assign x=>simp only[xR,AY] at h;exact bA.assign h
 | pick c x y =>
  simp only[xR,AY] at h;split at h
  . rename_i al;exact bA.abC al h
  . rename_i al;exact bA.abD al h
  . cases h
 | extract x i =>
  simp only[xR,AY] at h;split at h
  . rename_i ag;exact bA.extract ag h
  . cases h
 | nilCheck x =>
  simp only[xR,AY] at h;split at h
  . rename_i ag;cases h;exact bA.acR ag
  . cases h
 | _=>simp[xR] at h
theorem I':∀(m:Nat) (p:y_) (E:Env) {Ja:y_} {jd:Env},go n m p E=some (Ja,jd)->y_.h P f R n w Ja jd->y_.h P f R n w p E:=by
 intro m
 induction m with
 | zero =>
  intro p E Ja jd h ah;simp only[go,Option.some.injEq,Prod.mk.injEq] at h;obtain⟨rfl,rfl⟩:=h;exact ah
 | succ m cc =>
  intro p E Ja jd h ah
  cases p with
  | it k =>
   cases k with
   | nil=>simp[go] at h
   | cons x k =>
    cases x with
    | code c =>
     cases c with
     | seq x y=>exact aa8 (cc _ _ h ah)
     | skip=>exact aa9 (cc _ _ h ah)
     | block id c=>exact aa_ (cc _ _ h ah)
     | exit id =>
      unfold go at h;split at h
      . rename_i hk;exact aba hk (cc _ _ h ah)
      . cases h
     | cond c x y =>
      unfold go at h;split at h
      . rename_i al;rw[AY] at al;exact abb al (cc _ _ h ah)
      . rename_i al;rw[AY] at al;exact abc al (cc _ _ h ah)
      . cases h
     | region id ops aii =>
      cases aii with
      | true=>simp[go] at h
      | false =>
       have aB:fK P f R n ops ops.toList E k w:=cc _ _ h ah;have bH:=abh (id:=id) (l:=ops.toList) aB;rwa[Array.toArray_toList] at bH
     | _=>simp[go] at h
    | inBlock id=>exact aa' (cc _ _ h ah)
    | _=>simp[go] at h
  | op ops l k =>
   cases l with
   | nil=>exact fK.nil (cc _ _ h ah)
   | cons o l =>
    unfold go at h;split at h
    . rename_i hd;split at h
      . rename_i hw;rw[C5] at hw;split at h
        . rename_i v cK;split at h
          . rename_i d nO;refine fK.q (I_ cK) hw hd ?_;rw[nO];exact cc _ _ h ah
          . rename_i nO;refine fK.q (I_ cK) hw hd ?_;rw[nO];exact cc _ _ h ah
        . cases h
      . rename_i hw;rw[C5] at hw;split at h
        . rename_i d nO;refine fK.ew hw hd ?_;rw[nO];exact cc _ _ h ah
        . rename_i nO;refine fK.ew hw hd ?_;rw[nO];exact cc _ _ h ah
      . cases h
    . cases h
theorem hx.ae{E jd:Env}{k jy:List Item}(m:Nat)(h:aG.go n m (.it k) E=some (.it jy,jd))(ah:hx P f R n jd jy w):hx P f R n E k w:=I' m (.it k) E h ah
theorem hx.go{E jd:Env}{k jy:List Item}{ops:Array Oper}{l:List Oper}(m:Nat)(h:aG.go n m (.it k) E=some (.op ops l jy,jd))(ah:fK P f R n ops l jd jy w):hx P f R n E k w:=I' m (.it k) E h ah
theorem fK.ae{E jd:Env}{k jy:List Item}{ops:Array Oper}{l:List Oper}(m:Nat)(h:aG.go n m (.op ops l k) E=some (.it jy,jd))(ah:hx P f R n jd jy w):fK P f R n ops l E k w:=I' m (.op ops l k) E h ah
theorem fK.go{E jd:Env}{k jy:List Item}{ops W3:Array Oper}{l jU:List Oper}(m:Nat)(h:aG.go n m (.op ops l k) E=some (.op W3 jU jy,jd))(ah:fK P f R n W3 jU jd jy w):fK P f R n ops l E k w:=I' m (.op ops l k) E h ah
end
end Go.aG
set_option linter.unusedSectionVars false
namespace Go.aG
open Go
section
variable {P:Program} {f:FuncId} {R:Ending->World->Prop} {n:Nat}
theorem fK.z{ops:Array Oper}{o:Oper}{l:List Oper}{E:Env}{k:List Item}{w:World}{v:Value}(dM:bA P o E (λao=>ao=w) v)(h:fK P f R n ops l (pu o.dst v E) k w)
 (hw:want n ops E o.guard=some true:=by exact rfl) (hd:ke n o.dst=true:=by exact rfl):fK P f R n ops (o::l) E k w:=fK.q dM hw hd h
theorem fK.dY{ops:Array Oper}{o:Oper}{l:List Oper}{E:Env}{k:List Item}{w:World}{c:Bool}(dM:bA P o E (λao=>ao=w) (.bool c))(h:∀b,b=c->fK P f R n ops l (pu o.dst (.bool b) E) k w)
 (hw:want n ops E o.guard=some true:=by exact rfl) (hd:ke n o.dst=true:=by exact rfl):fK P f R n ops (o::l) E k w:=fK.dc dM hw hd h
theorem fK.ac{ops:Array Oper}{o:Oper}{l:List Oper}{E:Env}{k:List Item}{w:World}(ay:gB P o E w (λv ao=>fK P f R n ops l (pu o.dst v E) k ao))
 (hw:want n ops E o.guard=some true:=by exact rfl) (hd:ke n o.dst=true:=by exact rfl):fK P f R n ops (o::l) E k w:=fK.act hw hd ay
theorem fK.bg{ops:Array Oper}{o:Oper}{l:List Oper}{E:Env}{k:List Item}{w:World}{p:Prop}{i:Decidable p}(dM:bA P o E (λao=>ao=w) (.bool (@decide p i)))(a_:p->fK P f R n ops l (pu o.dst (.bool true) E) k w)(bD:¬ p->fK P f R n ops l (pu o.dst (.bool false) E) k w)
 (hw:want n ops E o.guard=some true:=by exact rfl) (hd:ke n o.dst=true:=by exact rfl):fK P f R n ops (o::l) E k w:=fK.dc dM hw hd λb ab=>by
 cases b
 . exact bD (of_decide_eq_false ab.symm)
 . exact a_ (of_decide_eq_true ab.symm)
theorem fK.gk{ops:Array Oper}{o:Oper}{l:List Oper}{E:Env}{k:List Item}{w:World}{α:Type}[BEq α][LawfulBEq α]{a c:α}(dM:bA P o E (λao=>ao=w) (.bool (a==c)))(a_:a=c->fK P f R n ops l (pu o.dst (.bool true) E) k w)(bD:a≠c->fK P f R n ops l (pu o.dst (.bool false) E) k w)
 (hw:want n ops E o.guard=some true:=by exact rfl) (hd:ke n o.dst=true:=by exact rfl):fK P f R n ops (o::l) E k w:=fK.dc dM hw hd λb ab=>by
 cases b
 . exact bD (ne_of_beq_false ab.symm)
 . exact a_ (eq_of_beq ab.symm)
theorem fK.lP{ops:Array Oper}{o:Oper}{l:List Oper}{E:Env}{k:List Item}{w:World}{α:Type}[BEq α][LawfulBEq α]{a c:α}(dM:bA P o E (λao=>ao=w) (.bool (!(a==c))))(a_:a≠c->fK P f R n ops l (pu o.dst (.bool true) E) k w)(bD:a=c->fK P f R n ops l (pu o.dst (.bool false) E) k w)
 (hw:want n ops E o.guard=some true:=by exact rfl) (hd:ke n o.dst=true:=by exact rfl):fK P f R n ops (o::l) E k w:=fK.dc dM hw hd λb ab=>by
 cases b
 . exact bD (Hm ab)
 . exact a_ (Hl ab)
theorem fK.sv{ops:Array Oper}{o:Oper}{l:List Oper}{E:Env}{k:List Item}{w:World}{c:Bool}(dM:bA P o E (λao=>ao=w) (.bool c))(al:c=true)(h:fK P f R n ops l (pu o.dst (.bool true) E) k w)
 (hw:want n ops E o.guard=some true:=by exact rfl) (hd:ke n o.dst=true:=by exact rfl):fK P f R n ops (o::l) E k w:=fK.q (al▸dM) hw hd h
theorem fK.lb{ops:Array Oper}{o:Oper}{l:List Oper}{E:Env}{k:List Item}{w:World}{c:Bool}(dM:bA P o E (λao=>ao=w) (.bool c))(al:c=false)(h:fK P f R n ops l (pu o.dst (.bool false) E) k w)
 (hw:want n ops E o.guard=some true:=by exact rfl) (hd:ke n o.dst=true:=by exact rfl):fK P f R n ops (o::l) E k w:=fK.q (al▸dM) hw hd h
theorem bA.e8{E:Env}{d:Option Tmp}{ty:TypeId}{pos:String}{af:Array Edge}{gd:Option (Nat×Bool)}{w:World}{t:TypeId}{x:Operand}{b off m by_:Nat}{z cs:List Value}{v:Value}{e:TypeId}(a_:ey P t=some (false,m,by_,z))(ab:ds w b cs e)
 (ag:aO E x=some (ptr b off):=by exact rfl) (al:cs[off]?=some v:=by exact rfl):bA P ⟨d,.load t x,ty,pos,af,gd⟩ E (λao=>ao=w) v:=bA.ca a_ ag λ_ e=>e▸ab.cell off _ al
theorem bA.dQ{E:Env}{d:Option Tmp}{ty:TypeId}{pos:String}{af:Array Edge}{gd:Option (Nat×Bool)}{w:World}{t:TypeId}{x:Operand}{b off m by_:Nat}{z:List Value}{v:Value}(a_:ey P t=some (false,m,by_,z))(a':Row w b off [v])
 (ag:aO E x=some (ptr b off):=by exact rfl):bA P ⟨d,.load t x,ty,pos,af,gd⟩ E (λao=>ao=w) v:=bA.ca a_ ag λ_ e=>e▸a'
theorem fK.a7{ops:Array Oper}{l:List Oper}{E:Env}{k:List Item}{w:World}{d d2:Option Tmp}{ty aij:TypeId}{pos aik:String}{af ail:Array Edge}{gd W4:Option (Nat×Bool)}{t t2:TypeId}{x x2:Operand}{i b Jb off o m by_:Nat}{z cs:List Value}{v:Value}{e:TypeId}
 (bD:dJ P t i=some o) (a_:ey P t2=some (false,m,by_,z)) (ab:ds w b cs e) (h:fK P f R n ops l (pu d2 v (pu d (ptr b (Jb+o)) E)) k w)
 (ag:aO E x=some (ptr b Jb):=by exact rfl) (c5:aO (pu d (ptr b (Jb+o)) E) x2=some (ptr b off):=by exact rfl) (al:cs[off]?=some v:=by exact rfl)
 (hw:want n ops E gd=some true:=by exact rfl) (hd:ke n d=true:=by exact rfl) (eC:want n ops (pu d (ptr b (Jb+o)) E) W4=some true:=by exact rfl) (Fk:ke n d2=true:=by exact rfl) :
 fK P f R n ops (⟨d,.fieldAddr t x i,ty,pos,af,gd⟩::⟨d2,.load t2 x2,aij,aik,ail,W4⟩::l) E k w:=
 fK.q (bA.fieldAddr bD ag) hw hd (fK.q (bA.e8 a_ ab c5 al) eC Fk h)
theorem gB.st{E:Env}{K:Value->World->Prop}{d:Option Tmp}{ty:TypeId}{pos:String}{af:Array Edge}{gd:Option (Nat×Bool)}{w:World}{t e:TypeId}{x y:Operand}{v:Value}{b off n by_:Nat}{g:Bool}{z cs vs:List Value}(a_:ey P t=some (g,n,by_,z))(ab:ds w b cs e)
 (eU:∀ao,Mod (λi=>i+1=b+1) w ao->ds ao b (cs.take off++vs++cs.drop (off+n)) e->K undef ao)
 (ag:aO E x=some (ptr b off):=by exact rfl) (aE:aO E y=some v:=by exact rfl) (cK:v.cells.toList=vs:=by exact rfl) (aR:vs.length=n:=by exact rfl) (h1:vs.all (·.oneCell')=true:=by exact rfl) (bl:(off+n).ble cs.length=true:=by exact rfl) :
 gB P ⟨d,.store t x y,ty,pos,af,gd⟩ E w K:=gB.store a_ ag aE cK aR h1 ab (Nat.le_of_ble_eq_true bl) λao hm _ hk=>eU ao hm hk
theorem dm{a b:Nat}(h:a.ble b=true:=by exact rfl):a<=b:=Nat.le_of_ble_eq_true h
theorem y'{p:Prop}[Decidable p](h:true=decide p):p:=of_decide_eq_true h.symm
theorem za{p:Prop}[Decidable p](h:false=decide p):¬ p:=of_decide_eq_false h.symm
end
section
variable {R bV:Nat->Prop} {w0 w ao:World} {L:List (dr R)} {i:Nat} {A:dr R}
theorem au.k{b:Nat}{cs:List Value}{e:TypeId}(h:au R bV w0 w L)(i:Nat)(ar:L[i]?=some (aw b cs e):=by exact rfl):ds w b cs e:=h.ac6 ar
theorem au.C6(is Jc:List Nat)(h:au R bV w0 w L)(bl:((is++Jc).all λi=>decide (i<L.length))=true)(aR:(is++Jc).Nodup):au R bV w0 w ((is.filterMap λi=>L[i]?)++[bh (Jc.filterMap λi=>L[i]?)]):=by
 have h1:=h.yO (is++Jc) bl aR;rw[List.filterMap_append] at h1;exact h1.close
theorem au.un(i:Nat)(h:au R bV w0 w L){L2:List (dr R)}(ar:L[i]?=some (bh L2))(is:List Nat)(bl:((is++[i]).all λi=>decide (i<L.length))=true)(aR:(is++[i]).Nodup):au R bV w0 w ((is.filterMap λi=>L[i]?)++L2):=by
 have h1:=h.yO (is++[i]) bl aR;rw[List.filterMap_append,List.filterMap_cons,ar] at h1;exact h1.open
theorem au.uj(h:au R bV w0 w L)(i:Nat)(ar:L[i]?=some A):Mod bV w0 w/\∃F',A.p F' w/\∀b,F' b->b<w.heap.size/\(bV b\/w0.heap.size<=b):=by
 obtain⟨F,h1,ah,_⟩:=h.act ar;exact⟨h.mod,F,h1,λb ab=>⟨(ah b ab).2,(ah b ab).1.1⟩⟩
theorem au.rt{v gT:Value}(h:au R bV w0 w L)(i:Nat)(ar:L[i]?=some A)(cK:v=gT):an (λaC ai=>aC=gT/\Mod bV w0 ai/\∃bz,A.p bz ai/\∀b,bz b->b<ai.heap.size/\(bV b\/w0.heap.size<=b)) (.returned v) w:=by
 obtain⟨h1,F,ah,aB⟩:=h.uj i ar;exact⟨v,rfl,cK,h1,F,ah,aB⟩
theorem au.ty(A':dr R)(i:Nat)(h:au R bV w0 w L)(ar:L[i]?=some A)(bf:∀F,A.p F w->A'.p F w):au R bV w0 w (L.set i A'):=h.imp ar bf
end
section
variable {R bV:Nat->Prop} {w0 w:World} {L:List (dr R)}
theorem au.W5(h:au R bV w0 w L)(kZ:L=[]:=by exact rfl):au R bV w0 w []:=kZ▸h
theorem au.cf{fj:dr R}(h:au R bV w0 w L)(kZ:L=[fj]:=by exact rfl):au R bV w0 w [fj]:=kZ▸h
theorem au.bM{fj fS:dr R}(h:au R bV w0 w L)(kZ:L=[fj,fS]:=by exact rfl):au R bV w0 w [fj,fS]:=kZ▸h
theorem au.cv{fj fS gD:dr R}(h:au R bV w0 w L)(kZ:L=[fj,fS,gD]:=by exact rfl):au R bV w0 w [fj,fS,gD]:=kZ▸h
theorem au.bU{fj fS gD hK:dr R}(h:au R bV w0 w L)(kZ:L=[fj,fS,gD,hK]:=by exact rfl):au R bV w0 w [fj,fS,gD,hK]:=kZ▸h
theorem au.cU{fj fS gD hK iF:dr R}(h:au R bV w0 w L)(kZ:L=[fj,fS,gD,hK,iF]:=by exact rfl):au R bV w0 w [fj,fS,gD,hK,iF]:=kZ▸h
theorem au.n6{fj fS gD hK iF jM:dr R}(h:au R bV w0 w L)(kZ:L=[fj,fS,gD,hK,iF,jM]:=by exact rfl):au R bV w0 w [fj,fS,gD,hK,iF,jM]:=kZ▸h
theorem au.n7{fj fS gD hK iF jM kR:dr R}(h:au R bV w0 w L)(kZ:L=[fj,fS,gD,hK,iF,jM,kR]:=by exact rfl):au R bV w0 w [fj,fS,gD,hK,iF,jM,kR]:=kZ▸h
theorem au.n8{fj fS gD hK iF jM kR mx:dr R}(h:au R bV w0 w L)(kZ:L=[fj,fS,gD,hK,iF,jM,kR,mx]:=by exact rfl):au R bV w0 w [fj,fS,gD,hK,iF,jM,kR,mx]:=kZ▸h
theorem au.ic{fj fS gD hK iF jM kR mx o_:dr R}(h:au R bV w0 w L)(kZ:L=[fj,fS,gD,hK,iF,jM,kR,mx,o_]:=by exact rfl):au R bV w0 w [fj,fS,gD,hK,iF,jM,kR,mx,o_]:=kZ▸h
theorem au.n10{fj fS gD hK iF jM kR mx o_ qD:dr R}(h:au R bV w0 w L)(kZ:L=[fj,fS,gD,hK,iF,jM,kR,mx,o_,qD]:=by exact rfl):au R bV w0 w [fj,fS,gD,hK,iF,jM,kR,mx,o_,qD]:=kZ▸h
theorem au.n11{fj fS gD hK iF jM kR mx o_ qD sw:dr R}(h:au R bV w0 w L)(kZ:L=[fj,fS,gD,hK,iF,jM,kR,mx,o_,qD,sw]:=by exact rfl):au R bV w0 w [fj,fS,gD,hK,iF,jM,kR,mx,o_,qD,sw]:=kZ▸h
theorem au.n12{fj fS gD hK iF jM kR mx o_ qD sw zb:dr R}(h:au R bV w0 w L)(kZ:L=[fj,fS,gD,hK,iF,jM,kR,mx,o_,qD,sw,zb]:=by exact rfl):au R bV w0 w [fj,fS,gD,hK,iF,jM,kR,mx,o_,qD,sw,zb]:=kZ▸h
end
section
variable {R bV:Nat->Prop} {w0 w:World} {L:List (dr R)}
theorem au.aL{fj:dr R}(h:au R bV w0 w L)(is:List Nat)(lE:Nat)(bl:((is++[lE]).all λi=>decide (i<L.length))=true:=by exact rfl)(aR:(is++[lE]).Nodup:=by decide)(bK:L[lE]?=some fj:=by exact rfl):au R bV w0 w ((is.filterMap λi=>L[i]?)++[bh [fj]]):=by
 have ag:=h.C6 is [lE] bl aR;simp only[List.filterMap_cons,List.filterMap_nil,bK] at ag;exact ag
theorem au.aQ{fj fS:dr R}(h:au R bV w0 w L)(is:List Nat)(lE nn:Nat)(bl:((is++[lE,nn]).all λi=>decide (i<L.length))=true:=by exact rfl)(aR:(is++[lE,nn]).Nodup:=by decide)(bK:L[lE]?=some fj:=by exact rfl)(h1:L[nn]?=some fS:=by exact rfl):au R bV w0 w ((is.filterMap λi=>L[i]?)++[bh [fj,fS]]):=by
 have ag:=h.C6 is [lE,nn] bl aR;simp only[List.filterMap_cons,List.filterMap_nil,bK,h1] at ag;exact ag
theorem au.bx{fj fS gD:dr R}(h:au R bV w0 w L)(is:List Nat)(lE nn pF:Nat)(bl:((is++[lE,nn,pF]).all λi=>decide (i<L.length))=true:=by exact rfl)(aR:(is++[lE,nn,pF]).Nodup:=by decide)(bK:L[lE]?=some fj:=by exact rfl)(h1:L[nn]?=some fS:=by exact rfl)(ah:L[pF]?=some gD:=by exact rfl):au R bV w0 w ((is.filterMap λi=>L[i]?)++[bh [fj,fS,gD]]):=by
 have ag:=h.C6 is [lE,nn,pF] bl aR;simp only[List.filterMap_cons,List.filterMap_nil,bK,h1,ah] at ag;exact ag
theorem au.bI{fj fS gD hK:dr R}(h:au R bV w0 w L)(is:List Nat)(lE nn pF sx:Nat)(bl:((is++[lE,nn,pF,sx]).all λi=>decide (i<L.length))=true:=by exact rfl)(aR:(is++[lE,nn,pF,sx]).Nodup:=by decide)(bK:L[lE]?=some fj:=by exact rfl)(h1:L[nn]?=some fS:=by exact rfl)(ah:L[pF]?=some gD:=by exact rfl)(aB:L[sx]?=some hK:=by exact rfl):au R bV w0 w ((is.filterMap λi=>L[i]?)++[bh [fj,fS,gD,hK]]):=by
 have ag:=h.C6 is [lE,nn,pF,sx] bl aR;simp only[List.filterMap_cons,List.filterMap_nil,bK,h1,ah,aB] at ag;exact ag
theorem au.cA{fj fS gD hK iF:dr R}(h:au R bV w0 w L)(is:List Nat)(lE nn pF sx xS:Nat)(bl:((is++[lE,nn,pF,sx,xS]).all λi=>decide (i<L.length))=true:=by exact rfl)(aR:(is++[lE,nn,pF,sx,xS]).Nodup:=by decide)(bK:L[lE]?=some fj:=by exact rfl)(h1:L[nn]?=some fS:=by exact rfl)(ah:L[pF]?=some gD:=by exact rfl)(aB:L[sx]?=some hK:=by exact rfl)(bH:L[xS]?=some iF:=by exact rfl):au R bV w0 w ((is.filterMap λi=>L[i]?)++[bh [fj,fS,gD,hK,iF]]):=by
 have ag:=h.C6 is [lE,nn,pF,sx,xS] bl aR;simp only[List.filterMap_cons,List.filterMap_nil,bK,h1,ah,aB,bH] at ag;exact ag
theorem au.dd{fj fS gD hK iF jM:dr R}(h:au R bV w0 w L)(is:List Nat)(lE nn pF sx xS Jd:Nat)(bl:((is++[lE,nn,pF,sx,xS,Jd]).all λi=>decide (i<L.length))=true:=by exact rfl)(aR:(is++[lE,nn,pF,sx,xS,Jd]).Nodup:=by decide)(bK:L[lE]?=some fj:=by exact rfl)(h1:L[nn]?=some fS:=by exact rfl)(ah:L[pF]?=some gD:=by exact rfl)(aB:L[sx]?=some hK:=by exact rfl)(bH:L[xS]?=some iF:=by exact rfl)(c_:L[Jd]?=some jM:=by exact rfl):au R bV w0 w ((is.filterMap λi=>L[i]?)++[bh [fj,fS,gD,hK,iF,jM]]):=by
 have ag:=h.C6 is [lE,nn,pF,sx,xS,Jd] bl aR;simp only[List.filterMap_cons,List.filterMap_nil,bK,h1,ah,aB,bH,c_] at ag;exact ag
end
end Go.aG
namespace Go.aG
open Go
def gd(n:Nat)(A:Nat->Bool)(ops:Array Oper):Nat->List Nat->Env->Option (List Nat×Env)
 | 0,l,E=>some (l,E)
 | m+1,i::l,E=>match ops[i]? with
  | some o=>match ke n o.dst with
   | true=>match I9 n ops E o.guard with
    | some true=>match A i with
     | false=>match xR E o.op with
      | some v=>match o.dst with
       | some d=>gd n A ops m l ((d,v)::E)
       | none=>gd n A ops m l E
      | none=>none
     | true=>none
    | some false=>match o.dst with
     | some d=>gd n A ops m l ((d,undef)::E)
     | none=>gd n A ops m l E
    | none=>none
   | false=>none
  | none=>none
 | _+1,[],_=>none
section
variable {P:Program} {f:FuncId} {R:Ending->World->Prop} {n:Nat} {C:World->Prop} {A:Nat->Bool} {Z:Nat} {w:World}
theorem hR.gd {ops:Array Oper} {k:List Item} (m:Nat) {l jU:List Nat} {E jd:Env} (h:aG.gd n A ops m l E=some (jU,jd)) (ah:hR P f R n C A Z ops jU jd k w):hR P f R n C A Z ops l E k w:=by
 induction m generalizing l E with
 | zero =>
  simp only [aG.gd,Option.some.injEq,Prod.mk.injEq] at h;obtain ⟨rfl,rfl⟩:=h;exact ah
 | succ m cc =>
  cases l with
  | nil=>simp [aG.gd] at h
  | cons i l =>
   unfold aG.gd at h;split at h
   · rename_i o eh;split at h
     · rename_i hd;split at h
       · rename_i hw;rw [C5] at hw;split at h
         · rename_i bf;split at h
           · rename_i v cK;refine hR.q eh bf (I_ cK) hw hd ?_;split at h
             · rename_i d nO; rw [nO]; exact cc h
             · rename_i nO; rw [nO]; exact cc h
           · cases h
         · cases h
       · rename_i hw;rw [C5] at hw;refine hR.ew eh hw hd ?_;split at h
         · rename_i d nO; rw [nO]; exact cc h
         · rename_i nO; rw [nO]; exact cc h
       · cases h
     · cases h
   · cases h
theorem hR.z{ops:Array Oper}{o:Oper}{i:Nat}{l:List Nat}{E:Env}{k:List Item}{v:Value}(eh:ops[i]?=some o)(dM:bA P o E C v)(h:hR P f R n C A Z ops l (pu o.dst v E) k w)
 (bf:A i=false:=by exact rfl) (hw:want n ops E o.guard=some true:=by exact rfl) (hd:ke n o.dst=true:=by exact rfl):hR P f R n C A Z ops (i::l) E k w:=hR.q eh bf dM hw hd h
theorem hR.dY{ops:Array Oper}{o:Oper}{i:Nat}{l:List Nat}{E:Env}{k:List Item}{c:Bool}(eh:ops[i]?=some o)(dM:bA P o E C (.bool c))(h:∀b,b=c->hR P f R n C A Z ops l (pu o.dst (.bool b) E) k w)
 (bf:A i=false:=by exact rfl) (hw:want n ops E o.guard=some true:=by exact rfl) (hd:ke n o.dst=true:=by exact rfl):hR P f R n C A Z ops (i::l) E k w:=hR.dc eh bf dM hw hd h
theorem hR.bg{ops:Array Oper}{o:Oper}{i:Nat}{l:List Nat}{E:Env}{k:List Item}{p:Prop}{j:Decidable p}(eh:ops[i]?=some o)(dM:bA P o E C (.bool (@decide p j)))(a_:p->hR P f R n C A Z ops l (pu o.dst (.bool true) E) k w)(bD:¬ p->hR P f R n C A Z ops l (pu o.dst (.bool false) E) k w)
 (bf:A i=false:=by exact rfl) (hw:want n ops E o.guard=some true:=by exact rfl) (hd:ke n o.dst=true:=by exact rfl):hR P f R n C A Z ops (i::l) E k w:=hR.dc eh bf dM hw hd λb ab=>by
 cases b
 . exact bD (of_decide_eq_false ab.symm)
 . exact a_ (of_decide_eq_true ab.symm)
theorem hR.gk{ops:Array Oper}{o:Oper}{i:Nat}{l:List Nat}{E:Env}{k:List Item}{α:Type}[BEq α][LawfulBEq α]{a c:α}(eh:ops[i]?=some o)(dM:bA P o E C (.bool (a==c)))(a_:a=c->hR P f R n C A Z ops l (pu o.dst (.bool true) E) k w)(bD:a≠c->hR P f R n C A Z ops l (pu o.dst (.bool false) E) k w)
 (bf:A i=false:=by exact rfl) (hw:want n ops E o.guard=some true:=by exact rfl) (hd:ke n o.dst=true:=by exact rfl):hR P f R n C A Z ops (i::l) E k w:=hR.dc eh bf dM hw hd λb ab=>by
 cases b
 . exact bD (ne_of_beq_false ab.symm)
 . exact a_ (eq_of_beq ab.symm)
theorem hR.lP{ops:Array Oper}{o:Oper}{i:Nat}{l:List Nat}{E:Env}{k:List Item}{α:Type}[BEq α][LawfulBEq α]{a c:α}(eh:ops[i]?=some o)(dM:bA P o E C (.bool (!(a==c))))(a_:a≠c->hR P f R n C A Z ops l (pu o.dst (.bool true) E) k w)(bD:a=c->hR P f R n C A Z ops l (pu o.dst (.bool false) E) k w)
 (bf:A i=false:=by exact rfl) (hw:want n ops E o.guard=some true:=by exact rfl) (hd:ke n o.dst=true:=by exact rfl):hR P f R n C A Z ops (i::l) E k w:=hR.dc eh bf dM hw hd λb ab=>by
 cases b
 . exact bD (Hm ab)
 . exact a_ (Hl ab)
theorem hR.ac{ops:Array Oper}{o:Oper}{i:Nat}{l:List Nat}{E:Env}{k:List Item}(eh:ops[i]?=some o)(ay:gB P o E w (λv ao=>(i=Z\/C ao)/\hR P f R n C A Z ops l (pu o.dst v E) k ao))
 (bf:A i=true:=by exact rfl) (hw:want n ops E o.guard=some true:=by exact rfl) (hd:ke n o.dst=true:=by exact rfl):hR P f R n C A Z ops (i::l) E k w:=hR.act eh bf hw hd ay
end
end Go.aG
namespace Go.pk
open Go Go.aG
section
variable {P:Program} {f:FuncId} {R:Ending->World->Prop} {n:Nat} {C:World->Prop} {A N:Nat->Bool} {Z:Nat} {w eG:World}
theorem iJ.gd {ops:Array Oper} {k:List Item} (m:Nat) {l jU:List Nat} {E jd:Env} (h:aG.gd n A ops m l E=some (jU,jd)) (ah:iJ P f R n C A N eG Z ops jU jd k w):iJ P f R n C A N eG Z ops l E k w:=by
 induction m generalizing l E with
 | zero =>
  simp only [aG.gd,Option.some.injEq,Prod.mk.injEq] at h;obtain ⟨rfl,rfl⟩:=h;exact ah
 | succ m cc =>
  cases l with
  | nil=>simp [aG.gd] at h
  | cons i l =>
   unfold aG.gd at h;split at h
   · rename_i o eh;split at h
     · rename_i hd;split at h
       · rename_i hw;rw [C5] at hw;split at h
         · rename_i bf;split at h
           · rename_i v cK;refine iJ.q eh bf (I_ cK) hw hd ?_;split at h
             · rename_i d nO; rw [nO]; exact cc h
             · rename_i nO; rw [nO]; exact cc h
           · cases h
         · cases h
       · rename_i hw;rw [C5] at hw;refine iJ.ew eh hw hd ?_;split at h
         · rename_i d nO; rw [nO]; exact cc h
         · rename_i nO; rw [nO]; exact cc h
       · cases h
     · cases h
   · cases h
theorem iJ.mP{ops:Array Oper}{o:Oper}{i:Nat}{l:List Nat}{E:Env}{k:List Item}{v:Value}(eh:ops[i]?=some o)(dM:bA P o E (λao=>ao=eG) v)(h:iJ P f R n C A N eG Z ops l (pu o.dst v E) k w)
 (bf:A i=false:=by exact rfl) (hq:N i=true:=by exact rfl) (hw:want n ops E o.guard=some true:=by exact rfl) (hd:ke n o.dst=true:=by exact rfl):iJ P f R n C A N eG Z ops (i::l) E k w:=iJ.abv eh bf hq dM hw hd h
theorem iJ.oi{ops:Array Oper}{o:Oper}{i:Nat}{l:List Nat}{E:Env}{k:List Item}{v:Value}(eh:ops[i]?=some o)(dM:bA P o E C v)(h:iJ P f R n C A N eG Z ops l (pu o.dst v E) k w)
 (bf:A i=false:=by exact rfl) (hq:N i=false:=by exact rfl) (hw:want n ops E o.guard=some true:=by exact rfl) (hd:ke n o.dst=true:=by exact rfl):iJ P f R n C A N eG Z ops (i::l) E k w:=iJ.RD eh bf hq dM hw hd h
theorem iJ.ac{ops:Array Oper}{o:Oper}{i:Nat}{l:List Nat}{E:Env}{k:List Item}(eh:ops[i]?=some o)(ay:gB P o E w (λv ao=>(i=Z\/C ao)/\iJ P f R n C A N eG Z ops l (pu o.dst v E) k ao))
 (bf:A i=true:=by exact rfl) (hw:want n ops E o.guard=some true:=by exact rfl) (hd:ke n o.dst=true:=by exact rfl):iJ P f R n C A N eG Z ops (i::l) E k w:=iJ.act eh bf hw hd ay
end
end Go.pk
namespace Go.aG
theorem cN{p:Prop}(h:p:=by first|omega|assumption):p:=h
theorem aU{p:Prop}(h:p:=by first|assumption|omega):p:=h
theorem ol{p:Prop}(h:p:=by first|omega|(simp only[List.length_append,List.length_cons,List.length_nil];omega)|(simp;omega)):p:=h
theorem fy{p:Prop}(h:p:=by unfold maxLen;first|omega|(simp only[List.length_append,List.length_cons,List.length_nil];omega)|(simp;omega)):p:=h
section
variable {R bV:Nat->Prop} {w0 w ao:World} {L:List (dr R)} {A:dr R} {α:Type} {enc:α->List Value} {e:TypeId} {sz:Nat} {v:Value} {l:List α}
theorem au.b'(h:au R bV w0 w L)(i:Nat)(ar:L[i]?=some (aP enc e sz v l):=by exact rfl):∃g,Acc enc e sz w g v l/\g<=w.heap.size/\∀(ao:World) (fz:Nat) (gT:Value) (jU:List α),Mod (b3 g) w ao->Acc enc e sz ao fz gT jU->(fz=g\/w.heap.size<fz)->au R bV w0 ao (L.set i (aP enc e sz gT jU)):=h.ac8 ar
theorem au.eH(h:au R bV w0 w L)(i:Nat)(ar:L[i]?=some A:=by exact rfl):∃F,A.p F w/\(∀b,F b->((bV b\/w0.heap.size<=b)/\¬ R b)/\b<w.heap.size)/\∀(ao:World) (F':Nat->Prop) (A':dr R),Mod F w ao->A'.p F' ao->(∀b,F' b->b<ao.heap.size/\(F b\/w.heap.size<=b))->au R bV w0 ao (L.set i A'):=h.act ar
theorem au.nG(h:au R bV w0 w L)(i:Nat)(ar:L[i]?=some A:=by exact rfl):∃F,A.p F w/\∀b,F b->b<w.heap.size:=h.get ar
theorem au.fB{α:Type}{A:α->dr R}(h:au R bV w0 w L)(i:Nat)(ar:L[i]?=some (nF A):=by exact rfl):∃a,au R bV w0 w (L.set i (A a)):=h.Mk ar
theorem au.gh{vs:List (Value×List α)}(h:au R bV w0 w L)(i k:Nat)(ar:L[i]?=some (fc enc vs):=by exact rfl)(hk:vs[k]?=some (v,l):=by exact rfl):aq enc w (dq 0 w.heap.size) v l:=h.cj ar hk
theorem au.u(h:au R bV w0 w L)(i:Nat)(is:List Nat){L2:List (dr R)}(ar:L[i]?=some (bh L2):=by exact rfl)(bl:((is++[i]).all λi=>decide (i<L.length))=true:=by exact rfl)(aR:(is++[i]).Nodup:=by decide):au R bV w0 w ((is.filterMap λi=>L[i]?)++L2):=h.un i ar is bl aR
theorem au.dB(h:au R bV w0 w L)(is:List Nat)(bl:(is.all λi=>decide (i<L.length))=true:=by exact rfl)(aR:is.Nodup:=by decide):au R bV w0 w (is.filterMap λi=>L[i]?):=h.yO is bl aR
theorem au.db{b:Nat}{cs cs':List Value}{e:TypeId}(h:au R bV w0 w L)(i:Nat)(hm:Mod (b3 (b+1)) w ao)(hk:ds ao b cs' e)(ar:L[i]?=some (aw b cs e):=by exact rfl):au R bV w0 ao (L.set i (aw b cs' e)):=h.o0 ar hm hk
theorem aq.fu{F:Nat->Prop}(h:aq enc w F v l){P:Program}{t:TypeId}{by_:Nat}{g:Bool}{z:List Value}(a_:P.underlying t=some (.slice e))(he:ey P e=some (g,sz,by_,z))(dN:∀x,(enc x).length=sz)(i:Nat)(ar:i<l.length:=by omega):
 ∃x b off,l[i]?=some x/\(∀w,(Instr.indexAt t v (.int .i64 (i:Int))).run P w=.ok (ptr b off) w)/\F b/\Row w b off (enc x):=aq.jJ h a_ he dN (k:=.i64) (n:=(i:Int)) i rfl ar
end
section
variable {w:World} {b:Nat} {cs:List Value} {e:TypeId}
theorem ds.c1{fj:Value}(h:ds w b cs e)(al:cs=[fj]:=by exact rfl):ds w b [fj] e:=al▸h
theorem ds.c2{fj fS:Value}(h:ds w b cs e)(al:cs=[fj,fS]:=by exact rfl):ds w b [fj,fS] e:=al▸h
theorem ds.hG{fj fS gD:Value}(h:ds w b cs e)(al:cs=[fj,fS,gD]:=by exact rfl):ds w b [fj,fS,gD] e:=al▸h
theorem ds.xT{fj fS gD hK iF jM kR:Value}(h:ds w b cs e)(al:cs=[fj,fS,gD,hK,iF,jM,kR]:=by exact rfl):ds w b [fj,fS,gD,hK,iF,jM,kR] e:=al▸h
theorem ds.vn{fj fS gD hK iF jM kR mx:Value}(h:ds w b cs e)(al:cs=[fj,fS,gD,hK,iF,jM,kR,mx]:=by exact rfl):ds w b [fj,fS,gD,hK,iF,jM,kR,mx] e:=al▸h
theorem ds.wF{fj fS gD hK iF jM kR mx o_ qD sw:Value}(h:ds w b cs e)(al:cs=[fj,fS,gD,hK,iF,jM,kR,mx,o_,qD,sw]:=by exact rfl):ds w b [fj,fS,gD,hK,iF,jM,kR,mx,o_,qD,sw] e:=al▸h
theorem ds.W6{fj fS gD hK iF jM kR mx o_ qD sw zb:Value}(h:ds w b cs e)(al:cs=[fj,fS,gD,hK,iF,jM,kR,mx,o_,qD,sw,zb]:=by exact rfl):ds w b [fj,fS,gD,hK,iF,jM,kR,mx,o_,qD,sw,zb] e:=al▸h
theorem ds.wG{fj fS gD hK iF jM kR mx o_ qD sw zb W7 W8 W9 W_ W' Xa:Value}(h:ds w b cs e)(al:cs=[fj,fS,gD,hK,iF,jM,kR,mx,o_,qD,sw,zb,W7,W8,W9,W_,W',Xa]:=by exact rfl):ds w b [fj,fS,gD,hK,iF,jM,kR,mx,o_,qD,sw,zb,W7,W8,W9,W_,W',Xa] e:=al▸h
end
abbrev eV(cZ c0:Value)(c:ak.cG)(l:List Value):List Value:=cZ::c0::.int .i64 c.workers::.int .i64 c.lL::.int .i64 c.sX::.int .i64 c.batch::.int .i64 c.sY::.int .i64 c.sZ::.int .i64 c.first::.int .i64 c.cap::.int .i64 c.s0::.int .i64 c.s3::l
abbrev o'(cZ c0:Value)(c:ak.cG):Value:=.agg #[cZ,c0,.int .i64 c.workers,.int .i64 c.lL,.int .i64 c.sX,.int .i64 c.batch,.int .i64 c.sY,.int .i64 c.sZ,.int .i64 c.first,.int .i64 c.cap,.int .i64 c.s0,.int .i64 c.s3]
end Go.aG
abbrev cm(w:Go.World):Nat->Prop:=Go.aG.dq 0 w.heap.size
theorem eD(w:Go.World):Go.aG.Ext w w:=Go.aG.Mod.refl _ w
abbrev bJ(g:Go.FuncId)(a:Array Go.Value)(w:Go.World)(R:Go.Ending->Go.World->Prop):Prop:=Go.Calls Go.Proofs.Tryz.prog g a w R
namespace Go.Proofs
open Tryz
open Go.aG Go.ak
theorem mixed:Tryz.prog.follows .mixedOrders=true:=aS
theorem aK:ey Tryz.prog 3=some (false,1,8,[ad]):=aS
theorem fe:ey Tryz.prog 4=some (false,1,1,[.bool false]):=aS
theorem kk:ey Tryz.prog 5=some (false,1,1,[.int .u8 0]):=aS
theorem dI:ey Tryz.prog 9=some (false,1,16,[aD []]):=aS
theorem hX:ey Tryz.prog 21=some (false,1,4,[.int .i32 0]):=aS
theorem pa:ey Tryz.prog 23=some (false,1,24,[.slice none 0 0]):=aS
theorem vo:ey Tryz.prog 24=some (false,1,24,[.slice none 0 0]):=aS
theorem kE:ey Tryz.prog 26=some (true,12,128,[.slice none 0 0,.slice none 0 0,ad,ad,ad,ad,ad,ad,ad,ad,ad,ad]):=aS
theorem gy:ey Tryz.prog 33=some (true,2,24,[ad,aD []]):=aS
theorem ed:ey Tryz.prog 35=some (true,11,104,[ad,ad,ad,ad,ad,aD [],ad,ad,.bool false,ad,aD []]):=aS
theorem tl:ey Tryz.prog 47=some (false,1,24,[.slice none 0 0]):=aS
theorem pG:ey Tryz.prog 57=some (false,1,24,[.slice none 0 0]):=aS
theorem vp:ey Tryz.prog 93=some (false,1,8,[.pointer none]):=aS
theorem re:ey Tryz.prog 99=some (false,1,8,[.pointer none]):=aS
theorem mb:ey Tryz.prog 110=some (true,2,24,[ad,aD []]):=aS
theorem sy:ey Tryz.prog 120=some (false,1,24,[.slice none 0 0]):=aS
theorem C7:ey Tryz.prog 157=some (false,1,8,[.nilFunc]):=aS
theorem NM:ey Tryz.prog 162=some (false,1,8,[.map none]):=aS
theorem j8:ey Tryz.prog 172=some (true,2,16,[ad,ad]):=aS
theorem xU:ey Tryz.prog 173=some (false,1,24,[.slice none 0 0]):=aS
theorem xV:ey Tryz.prog 174=some (false,1,8,[.map none]):=aS
theorem lF:ey Tryz.prog 219=some (false,1,24,[.slice none 0 0]):=aS
theorem oF:ey Tryz.prog 221=some (true,2,32,[.bool false,.slice none 0 0]):=aS
theorem Fl:ey Tryz.prog 225=some (false,1,24,[.slice none 0 0]):=aS
theorem sA:ey Tryz.prog 228=some (true,3,48,[ad,.slice none 0 0,aD []]):=aS
theorem eP:ey Tryz.prog 233=some (true,2,16,[.int .i32 0,ad]):=aS
theorem j9:ey Tryz.prog 238=some (true,2,32,[.bool false,.slice none 0 0]):=aS
theorem oG:ey Tryz.prog 262=some (false,1,24,[.slice none 0 0]):=aS
theorem AZ:ey Tryz.prog 268=some (true,2,16,[ad,ad]):=aS
theorem Xb:ey Tryz.prog 281=some (false,1,8,[.map none]):=aS
theorem Fm:ey Tryz.prog 285=some (false,1,8,[.nilFunc]):=aS
theorem C8:dJ Tryz.prog 26 0=some 0:=aS
theorem vq:dJ Tryz.prog 26 1=some 1:=aS
theorem zc:dJ Tryz.prog 26 2=some 2:=aS
theorem Je:dJ Tryz.prog 26 3=some 3:=aS
theorem Xc:dJ Tryz.prog 26 4=some 4:=aS
theorem Xd:dJ Tryz.prog 26 5=some 5:=aS
theorem Xe:dJ Tryz.prog 26 6=some 6:=aS
theorem Xf:dJ Tryz.prog 26 7=some 7:=aS
theorem Jf:dJ Tryz.prog 26 8=some 8:=aS
theorem Xg:dJ Tryz.prog 26 9=some 9:=aS
theorem Xh:dJ Tryz.prog 26 10=some 10:=aS
theorem Xi:dJ Tryz.prog 26 11=some 11:=aS
theorem xW:dJ Tryz.prog 33 0=some 0:=aS
theorem A0:dJ Tryz.prog 33 1=some 1:=aS
theorem tm:dJ Tryz.prog 35 0=some 0:=aS
theorem sB:dJ Tryz.prog 35 1=some 1:=aS
theorem qE:dJ Tryz.prog 35 2=some 2:=aS
theorem xX:dJ Tryz.prog 35 3=some 3:=aS
theorem A1:dJ Tryz.prog 35 4=some 4:=aS
theorem C9:dJ Tryz.prog 35 5=some 5:=aS
theorem A2:dJ Tryz.prog 35 6=some 6:=aS
theorem A3:dJ Tryz.prog 35 7=some 7:=aS
theorem Jg:dJ Tryz.prog 35 8=some 8:=aS
theorem A4:dJ Tryz.prog 35 9=some 9:=aS
theorem wH:dJ Tryz.prog 110 0=some 0:=aS
theorem A5:dJ Tryz.prog 110 1=some 1:=aS
theorem Xj:dJ Tryz.prog 123 0=some 0:=aS
theorem Fo:dJ Tryz.prog 123 1=some 1:=aS
theorem NN:dJ Tryz.prog 164 0=some 0:=aS
theorem Jh:dJ Tryz.prog 164 1=some 1:=aS
theorem aim:dJ Tryz.prog 172 0=some 0:=aS
theorem xY:dJ Tryz.prog 176 0=some 0:=aS
theorem xZ:dJ Tryz.prog 176 1=some 1:=aS
theorem ain:dJ Tryz.prog 217 0=some 0:=aS
theorem Ji:dJ Tryz.prog 217 1=some 1:=aS
theorem rW:dJ Tryz.prog 217 2=some 2:=aS
theorem aio:dJ Tryz.prog 221 0=some 0:=aS
theorem wI:dJ Tryz.prog 221 1=some 1:=aS
theorem Fp:dJ Tryz.prog 228 0=some 0:=aS
theorem Fq:dJ Tryz.prog 228 1=some 1:=aS
theorem Fs:dJ Tryz.prog 228 2=some 2:=aS
theorem rf:dJ Tryz.prog 233 0=some 0:=aS
theorem rh:dJ Tryz.prog 233 1=some 1:=aS
theorem Ft:dJ Tryz.prog 238 0=some 0:=aS
theorem uk:dJ Tryz.prog 238 1=some 1:=aS
theorem oH:dJ Tryz.prog 264 0=some 0:=aS
theorem C_:dJ Tryz.prog 268 0=some 0:=aS
theorem NO:dJ Tryz.prog 268 1=some 1:=aS
theorem zd:dJ Tryz.prog 283 0=some 0:=aS
theorem Xk:dJ Tryz.prog 283 1=some 1:=aS
theorem NP(a b:b4)(w:World):(Op.equalIn 10000 33 (.agg #[U a.cp,aD a.word]) (.agg #[U b.cp,aD b.word])).run Tryz.prog w=.ok (decide (a=b)) w:=
 Cq (ks:=[(0,.int .i64),(1,.str)]) c6 c6 c6 (by
  obtain⟨a0,ib⟩:=a
  obtain⟨m_,aL⟩:=b
  (by_cases bK:a0=m_)<;>(first|(have g0:=beq_eq_false_iff_ne.2 bK)|(have g0:=beq_iff_eq.2 bK))<;>(by_cases h1:ib=aL)<;>(first|(have g1:=beq_eq_false_iff_ne.2 h1)|(have g1:=beq_iff_eq.2 h1))<;>simp[mq,ng,aD,toList_mk,bK,h1,g0,g1]) w
theorem aip(a b:(Int×Int))(w:World):(Op.equalIn 10000 172 (.agg #[U a.1,U a.2]) (.agg #[U b.1,U b.2])).run Tryz.prog w=.ok (decide (a=b)) w:=
 Cq (ks:=[(0,.int .i64),(1,.int .i64)]) c6 c6 c6 (by
  obtain⟨a0,ib⟩:=a
  obtain⟨m_,aL⟩:=b
  (by_cases bK:a0=m_)<;>(first|(have g0:=beq_eq_false_iff_ne.2 bK)|(have g0:=beq_iff_eq.2 bK))<;>(by_cases h1:ib=aL)<;>(first|(have g1:=beq_eq_false_iff_ne.2 h1)|(have g1:=beq_iff_eq.2 h1))<;>simp[mq,ng,aD,toList_mk,bK,h1,g0,g1]) w
theorem aiq(a b:cd)(w:World):(Op.equalIn 10000 233 (.agg #[.int .i32 a.rune,U a.to]) (.agg #[.int .i32 b.rune,U b.to])).run Tryz.prog w=.ok (decide (a=b)) w:=
 Cq (ks:=[(0,.int .i32),(1,.int .i64)]) c6 c6 c6 (by
  obtain⟨a0,ib⟩:=a
  obtain⟨m_,aL⟩:=b
  (by_cases bK:a0=m_)<;>(first|(have g0:=beq_eq_false_iff_ne.2 bK)|(have g0:=beq_iff_eq.2 bK))<;>(by_cases h1:ib=aL)<;>(first|(have g1:=beq_eq_false_iff_ne.2 h1)|(have g1:=beq_iff_eq.2 h1))<;>simp[mq,ng,aD,toList_mk,bK,h1,g0,g1]) w
theorem Xl:b8 Tryz.prog 23=true:=aS
theorem Xm:b8 Tryz.prog 25=true:=aS
theorem air:b8 Tryz.prog 39=true:=aS
theorem ais:b8 Tryz.prog 44=true:=aS
theorem Xn:b8 Tryz.prog 54=true:=aS
theorem ait:b8 Tryz.prog 55=true:=aS
theorem um:b8 Tryz.prog 56=true:=aS
theorem NQ:b8 Tryz.prog 57=true:=aS
theorem aiu:b8 Tryz.prog 58=true:=aS
theorem aiv:b8 Tryz.prog 59=true:=aS
theorem C':b8 Tryz.prog 60=true:=aS
theorem Fu:b8 Tryz.prog 61=true:=aS
theorem aiw:b8 Tryz.prog 79=true:=aS
theorem Xo:b8 Tryz.prog 82=true:=aS
theorem Xp:b8 Tryz.prog 85=true:=aS
theorem aix:b8 Tryz.prog 90=true:=aS
theorem aiy:b8 Tryz.prog 91=true:=aS
theorem Jj:b8 Tryz.prog 96=true:=aS
theorem aiz:b8 Tryz.prog 97=true:=aS
theorem aiA:b8 Tryz.prog 98=true:=aS
theorem aiB:b8 Tryz.prog 99=true:=aS
theorem aiC:b8 Tryz.prog 100=true:=aS
theorem NR:b8 Tryz.prog 102=true:=aS
theorem NS:b8 Tryz.prog 103=true:=aS
theorem Jk:b8 Tryz.prog 104=true:=aS
theorem Xq:b8 Tryz.prog 105=true:=aS
theorem aiD:b8 Tryz.prog 106=true:=aS
theorem NT:b8 Tryz.prog 107=true:=aS
theorem aiE:b8 Tryz.prog 124=true:=aS
theorem aiF:b8 Tryz.prog 125=true:=aS
theorem NU:b8 Tryz.prog 126=true:=aS
theorem aiG:b8 Tryz.prog 127=true:=aS
theorem Xr:b8 Tryz.prog 133=true:=aS
theorem Xs:b8 Tryz.prog 134=true:=aS
theorem aiH:b8 Tryz.prog 135=true:=aS
theorem Xt:b8 Tryz.prog 136=true:=aS
theorem Xu:b8 Tryz.prog 137=true:=aS
theorem wJ:b8 Tryz.prog 138=true:=aS
theorem aiI:b8 Tryz.prog 139=true:=aS
theorem aiJ:b8 Tryz.prog 140=true:=aS
theorem aiK:b8 Tryz.prog 141=true:=aS
theorem aiL:b8 Tryz.prog 142=true:=aS
theorem aiM:b8 Tryz.prog 143=true:=aS
theorem Xv:b8 Tryz.prog 144=true:=aS
theorem Da:b8 Tryz.prog 145=true:=aS
theorem Jl:b8 Tryz.prog 146=true:=aS
theorem Jm:b8 Tryz.prog 147=true:=aS
theorem aiN:b8 Tryz.prog 148=true:=aS
theorem aiO:b8 Tryz.prog 149=true:=aS
theorem NV:b8 Tryz.prog 150=true:=aS
theorem aiP:b8 Tryz.prog 166=true:=aS
theorem Xw:b8 Tryz.prog 170=true:=aS
theorem Xx:b8 Tryz.prog 171=true:=aS
theorem aiQ:b8 Tryz.prog 172=true:=aS
theorem aiR:b8 Tryz.prog 173=true:=aS
theorem aiS:b8 Tryz.prog 174=true:=aS
theorem aiT:b8 Tryz.prog 175=true:=aS
theorem aiU:b8 Tryz.prog 176=true:=aS
theorem NW:b8 Tryz.prog 177=true:=aS
theorem Xy:b8 Tryz.prog 178=true:=aS
theorem aiV:b8 Tryz.prog 179=true:=aS
theorem aiW:b8 Tryz.prog 180=true:=aS
theorem aiX:b8 Tryz.prog 181=true:=aS
theorem aiY:b8 Tryz.prog 182=true:=aS
theorem NX:b8 Tryz.prog 183=true:=aS
theorem Fv:b8 Tryz.prog 194=true:=aS
theorem wK:b8 Tryz.prog 195=true:=aS
theorem aiZ:b8 Tryz.prog 196=true:=aS
theorem Jn:b8 Tryz.prog 197=true:=aS
theorem NY:b8 Tryz.prog 198=true:=aS
theorem ai0:b8 Tryz.prog 208=true:=aS
theorem Xz:b8 Tryz.prog 209=true:=aS
theorem XA:b8 Tryz.prog 210=true:=aS
theorem ai1:b8 Tryz.prog 219=true:=aS
end Go.Proofs
namespace Go.Proofs
open Tryz
open Go.aG Go.ak
theorem ai2{w0:World}(c:Nat)(b:UInt8)(gl:c<4294967296):
 bJ 196 #[.int .u32 (c:Int),.int .u8 (b.toNat:Int)] w0 (an λaC ai=>aC=.int .u32 ((u7 c b.toNat:Nat):Int)/\Ext w0 ai):=by
 have bB:=eD w0;have S1:=b.toNat_lt;refine bP func196 rfl ntmps196 rfl (.go 8 rfl (.z (.n' c6 underlying213 rfl (IntWalk.u32_in _ aa)) (have arG:=xy (a:=c) (b:=b.toNat) aa aa;.z (.Ml (a:=c) (b:=b.toNat) rfl rfl aa aa) (.ae 8 rfl (dU (I:=λm E W=>∃(c1:Nat) (k:Nat),E=[(0,.int .u32 (c1:Int)),(10,U (k:Int))]/\m=8-k/\Ext w0 W/\w0.heap.size<=W.heap.size/\(c1=q5 k (c ^^^ b.toNat))/\(c1<4294967296)/\(k<=8)) ?_ ?_)))))
 . refine⟨_,_,⟨(c ^^^ b.toNat:Nat),(0:Nat),rfl,rfl,bB,Nat.le_refl _,dC,aa,aa⟩,bj⟩
 . rintro _ _ ai ⟨c1,k,rfl,rfl,bE,gZ,al,hQ,x0⟩ b1;refine .go 2 rfl (.bg (.lt rfl rfl) (λaF=>?_) λaF=>?_)
   . refine .go 9 rfl (.z (.adf (a:=c1) rfl rfl aa) (.go 5 rfl (.z (.acf ((c1 / 2:Nat):Int) rfl rfl aa) (.go 5 rfl (.gk (.eq rfl rfl) (λaJ=>?_) λaJ=>?_)))))
     . exact .ae 1 rfl (have arH:=xy (a:=c1 / 2) (b:=3988292384) aa aa;.go 3 rfl (.z (.Ml (a:=c1 / 2) (b:=3988292384) rfl rfl aa aa) (.go 4 rfl (.z (.cg ((k+1:Nat):Int) rfl rfl aa) (.ae 2 rfl ((b1 _ _ _ ⟨((c1 / 2) ^^^ 3988292384:Nat),(k+1:Nat),rfl,rfl,bE,aa,(by first|exact TQ al aa|exact TR al aa|(exfalso;omega)),e_,e_⟩ aa).sub bj))))))
     exact .go 5 rfl (.z (.cg ((k+1:Nat):Int) rfl rfl aa) (.ae 2 rfl ((b1 _ _ _ ⟨(c1 / 2:Nat),(k+1:Nat),rfl,rfl,bE,aa,(by first|exact TQ al aa|exact TR al aa|(exfalso;omega)),e_,e_⟩ aa).sub bj)))
   exact .ae 9 rfl (aN func196 rfl rfl (an.mk ⟨(congrArg (Value.int .u32) (by first|(rw[al,show k=8 from by omega];rfl)|(exfalso;omega))),bE⟩))
theorem ai3{w0:World}(c:Nat){ee:Value}{b:List UInt8}(gl:c<4294967296)(gr:aq eB w0 (cm w0) ee b)(kr:b.length<=4000000):
 bJ 173 #[.int .u32 (c:Int),ee] w0 (an λaC ai=>aC=.int .u32 ((AI c b:Nat):Int)/\Ext w0 ai):=by
 have bB:=eD w0;refine bP func173 rfl ntmps173 rfl (.go 7 rfl (.z (.HQ (a:=c) rfl aa) (.go 6 rfl (.z (.ct underlying120 (gr) rfl) (.ae 3 rfl (dU (I:=λm E W=>∃(c1:Nat) (k:Nat),E=[(0,.int .u32 (c1:Int)),(9,ee),(10,U (b.length:Int)),(11,U (k:Int))]/\m=b.length-k/\Ext w0 W/\w0.heap.size<=W.heap.size/\aq eB W (cm w0) ee b/\(c1=rN (4294967295-c) (b.take k))/\(c1<4294967296)/\(k<=b.length)) ?_ ?_))))))
 . refine⟨_,_,⟨(4294967295-c:Nat),(0:Nat),rfl,rfl,bB,Nat.le_refl _,gr,dC,aa,aa⟩,bj⟩
 . rintro _ _ ai ⟨c1,k,rfl,rfl,bE,gZ,f1,al,hQ,mQ⟩ b1;refine .go 2 rfl (.bg (.lt rfl rfl) (λaF=>?_) λaF=>?_)
   . refine .ae 2 rfl ?_;obtain⟨ax,aQ,e',a8,bT,cu,js,cI⟩:=aq.fL f1 underlying120 kk n4 (k:=.i64) (n:=(k:Int)) (k) aa aU;refine .go 6 rfl (.z (.indexAddr rfl rfl bT) (.z (.dQ kk cI) (.go 5 rfl (.ac (.aH aiZ rfl (ai2 (w0:=ai)  (c1) (ax) cN) ?_)))));rintro _ aZ ⟨rfl,av⟩;have f2:=f1.ext av;have bG:=bE.ext av;have i':=av.size;exact .go 4 rfl (.z (.cg ((k+1:Nat):Int) rfl rfl aa) (.ae 2 rfl ((b1 _ _ _ ⟨(u7 c1 ax.toNat:Nat),(k+1:Nat),rfl,rfl,bG,aa,f2,(by first|(rw[TP a8,<-al])|(exfalso;omega)),(by first|exact AJ hQ ax.toNat_lt|(exfalso;omega)),e_⟩ aa).sub bj)))
   exact .go 7 rfl (.z (.HQ (a:=c1) rfl aa) (.ae 2 rfl (aN func173 rfl rfl (an.mk ⟨(congrArg (Value.int .u32) (by first|(rw[al,List.take_of_length_le aa];rfl)|(exfalso;omega))),bE⟩))))
theorem XB{w0:World}{ee:Value}{b:List UInt8}(gr:aq eB w0 (cm w0) ee b)(kr:b.length<=4000000):
 bJ 137 #[ee] w0 (an λaC ai=>aC=.int .u32 ((kB b:Nat):Int)/\Ext w0 ai):=by
 have bB:=eD w0;refine bP func137 rfl ntmps137 rfl (.go 7 rfl (.ac (.aH aiR rfl (ai3 (w0:=w0) (b:=b) (0) cN ((gr).cz (Nat.zero_le _) aa) lQ) ?_)));rintro _ ai ⟨rfl,av⟩;have bE:=bB.ext av;exact .ae 2 rfl (aN func137 rfl rfl (an.mk ⟨(congrArg (Value.int .u32) dC),bE⟩))
theorem Fw{w0:World}{ku:Value}{s:List UInt8}(oj:aq eB w0 (cm w0) ku s)(A6:s.length<=4000000):
 bJ 61 #[ku] w0 (an λaC ai=>(∃dp,Acc eB 5 1 ai dp aC (s)/\(dp=0\/w0.heap.size<dp))/\Ext w0 ai):=by
 have bB:=eD w0;refine bP func61 rfl ntmps61 rfl ?_;obtain⟨bY,bZ,ef,cq⟩:=aq.isNil (oj);refine .go 8 rfl ?_;subst ef;refine .dY (.Mc underlying120 rfl rfl) λaL aF=>.ae 1 rfl ?_
 cases aL
 case true =>
  replace aF:=aF.symm;replace cq:=cq aF;exact .ae 5 rfl (aN func61 rfl rfl (an.mk ⟨⟨0,Acc.cast Acc.nil Db,.inl rfl⟩,bB⟩))
 replace aF:=aF.symm;exact .go 4 rfl (.ac (.buildSlice [] underlying120 kk rfl rfl rfl b0 λai aQ av aJ ec aW=>have f1:=oj.ext av;have bE:=bB.ext av;have cu:=Acc.eA (enc:=eB) aW ([]:List UInt8) 0 rfl n4 rfl eS;.go 1 rfl (.ac (.append cu underlying120 kk rfl n4 B' rfl rfl (f1) ol fy λv1 g1 aZ b_ aA b7 fF=>have bG:=Ext.gM bE aA aa;.ae 2 rfl (aN func61 rfl rfl (an.mk ⟨⟨_,Acc.cast b_ Db,by omega⟩,bG⟩))))))
theorem wL{w0:World}{ee:Value}{b:List UInt8}(n:Int)(size:Nat)(gr:aq eB w0 (cm w0) ee b)(kr:b.length<=4000000)(dN:size<=8):
 bJ 195 #[ee,U n,U (size:Int)] w0 (an λaC ai=>(∃dp,Acc eB 5 1 ai dp aC (b++fk n size)/\(dp=0\/w0.heap.size<dp))/\Ext w0 ai):=by
 have bB:=eD w0;refine bP func195 rfl ntmps195 rfl (.go 7 rfl (.ac (.aH Fu rfl (Fw (w0:=w0) (s:=b)  ((gr).cz (Nat.zero_le _) aa) aU) ?_)));rintro v1 ai ⟨⟨iq,h1,b7⟩,av⟩;have bE:=bB.ext av;have gZ:=av.size;refine .go 5 rfl (.z (.max rfl rfl) (.z (.min rfl rfl) ?_));rw[show(min (max (size:Int) 0) 8)=(size:Int) from by omega];refine .ae 9 rfl (dU (I:=λm E W=>∃(lG:Value) (j_:Nat) (out:List UInt8) (i:Nat),E=[(1,U n),(2,U (size:Int)),(7,lG),(14,U (size:Int)),(15,U (i:Int))]/\m=size-i/\Ext w0 W/\ai.heap.size<=W.heap.size/\Acc eB 5 1 W j_ lG out/\(j_=0\/w0.heap.size<j_)/\(out=b++(fk n size).take i)/\(out.length=b.length+i)/\(i<=size)) ?_ ?_)
 . refine⟨_,_,⟨(v1:Value),(iq:Nat),((b):List UInt8),(0:Nat),rfl,rfl,bE,Nat.le_refl _,h1,aa,dh,dh,aa⟩,bj⟩
 . rintro _ _ aZ ⟨lG,j_,out,i,rfl,rfl,bG,i',b_,eJ,eh,iv,na⟩ b1;refine .go 2 rfl (.bg (.lt rfl rfl) (λaF=>?_) λaF=>?_)
   . refine .go 14 rfl (.z (.tH c6 underlying260 rfl) (.go 1 rfl (.z (.h3 ((size:Int)-1) rfl rfl aa) (.go 1 rfl (.z (.h3 (((size:Int)-1)-(i:Int)) rfl rfl aa) (.z (.RF ((8*((size-1)-i):Nat):Int) rfl rfl aa) (.z (.n' c6 underlying96 rfl (IntWalk.u64_in _ aa)) (.z (.Mm (8*((size-1)-i)) rfl rfl aa (by simp only[IntKind.bits];omega)) (.z (.sl c6 underlying5 rfl) (.ac (.buildSlice [(.int .u8 ((gC ((IntKind.u64.wrap n) / 2 ^ (8*((size-1)-i)))).toNat:Int):Value)] underlying120 kk rfl rfl rfl b0 λbp aQ aA aJ cq aW=>have f2:=b_.ext aA;have ch:=bG.ext aA;have dk:=aq.eA (enc:=eB) aW ([(gC ((IntKind.u64.wrap n) / 2 ^ (8*((size-1)-i))))]:List UInt8) 1 rfl rfl eS;.ac (.append f2 underlying120 kk rfl n4 B' rfl rfl (dk) ol fy λv2 g1 bX dV aM kS ec=>?_))))))))))));have eL:=Ext.gM ch aM aa;exact .go 4 rfl (.z (.cg ((i+1:Nat):Int) rfl rfl aa) (.ae 2 rfl ((b1 _ _ _ ⟨(v2:Value),(g1:Nat),((out++[(gC ((IntKind.u64.wrap n) / 2 ^ (8*((size-1)-i))))]):List UInt8),(i+1:Nat),rfl,rfl,eL,aa,dV,aa,(by first|exact TT eh aa rfl|(exfalso;omega)),ap,e_⟩ aa).sub bj)))
   exact .ae 9 rfl (aN func195 rfl rfl (an.mk ⟨⟨_,Acc.cast b_ (by first|(rw[eh,List.take_of_length_le (by rw[im];omega)])|(exfalso;omega)),by omega⟩,bG⟩))
theorem uo{p:Prop}(h:p:=by first|exact(H0 aa).1|exact(H0 aa).2|(rw[aR,<-(H2 aa).1,show i=size from by omega];simp)|exact(H2 aa).2|(exfalso;omega)):p:=h
theorem uq{p:Prop}(h:p:=by omega):p:=h
theorem XC{w0:World}{ee:Value}{b:List UInt8}(at_:Int)(size:Nat)(gr:aq eB w0 (cm w0) ee b)(XD:b6 at_)(kr:b.length<=4000000)(dN:1<=size/\size<=4):
 bJ 136 #[ee,U at_,U (size:Int)] w0 (an λaC ai=>∃eR gi,aC=.tuple #[eR,gi]/\eR=U (j6 b at_ size)/\(∃cr:Bool,cr=(mK b at_ size)/\gi=.bool cr)/\Ext w0 ai):=by
 have bB:=eD w0;refine bP func136 rfl ntmps136 rfl (.go 9 rfl (.bg (.lt rfl rfl) (λaF=>?_) λaF=>?_))
 . exact .ae 29 rfl (cM func136 rfl rfl rfl (an.mk ⟨_,_,rfl,(cR uo),⟨_,uo,rfl⟩,bB⟩))
 refine .go 2 rfl (.bg (.gt rfl rfl) (λaJ=>?_) λaJ=>?_)
 . exact .ae 26 rfl (cM func136 rfl rfl rfl (an.mk ⟨_,_,rfl,(cR uo),⟨_,uo,rfl⟩,bB⟩))
 refine .go 3 rfl (.bg (.lt rfl rfl) (λaX=>?_) λaX=>?_)
 . exact .ae 22 rfl (cM func136 rfl rfl rfl (an.mk ⟨_,_,rfl,(cR uo),⟨_,uo,rfl⟩,bB⟩))
 refine .go 4 rfl (.z (.ct underlying120 (gr) rfl) (.bg (.gt rfl rfl) (λbr=>?_) λbr=>?_))
 . exact .ae 16 rfl (cM func136 rfl rfl rfl (an.mk ⟨_,_,rfl,(cR uo),⟨_,uo,rfl⟩,bB⟩))
 refine .go 4 rfl (.z (.ct underlying120 (gr) rfl) (.go 1 rfl (.z (.h3 ((b.length:Int)-at_) rfl rfl uq) (.bg (.gt rfl rfl) (λcE=>?_) λcE=>?_))))
 . exact .ae 8 rfl (cM func136 rfl rfl rfl (an.mk ⟨_,_,rfl,(cR uo),⟨_,uo,rfl⟩,bB⟩))
 refine .ae 15 rfl (dU (I:=λm E W=>∃(n:Nat) (i:Nat),E=[(0,ee),(1,U at_),(8,.int .u64 (n:Int)),(34,U (size:Int)),(35,U (i:Int))]/\m=size-i/\Ext w0 W/\w0.heap.size<=W.heap.size/\aq eB W (cm w0) ee b/\(n=kV ((b.drop at_.toNat).take i))/\(i<=size)) ?_ ?_)
 . refine⟨_,_,⟨(0:Nat),(0:Nat),rfl,rfl,bB,Nat.le_refl _,gr,dC,uq⟩,bj⟩
 . rintro _ _ ai ⟨n,i,rfl,rfl,bE,gZ,f1,aR,na⟩ b1;have nz:=Mu (i:=i) (l:=b.drop at_.toNat) uq;rw[<-aR] at nz;refine .go 2 rfl (.bg (.lt rfl rfl) (λcw=>?_) λcw=>?_)
   . refine .go 13 rfl (.z (.Tr (a:=n) rfl rfl aa) (.go 3 rfl (.z (.cg (at_+(i:Int)) rfl rfl uq) ?_)));obtain⟨ax,gN,e',a8,bT,cu,js,cI⟩:=aq.fL f1 underlying120 kk n4 (k:=.i64) (n:=(at_+(i:Int))) ((at_+(i:Int)).toNat) uq aU;exact .z (.indexAddr rfl rfl bT) (.z (.dQ kk cI) (have ai4:=ax.toNat_lt;.z (.n' c6 underlying260 rfl (IntWalk.u64_in _ uq)) (.z (.Tq (a:=n) (b:=ax.toNat) rfl rfl uq uq) (.go 4 rfl (.z (.cg ((i+1:Nat):Int) rfl rfl uq) (.ae 2 rfl ((b1 _ _ _ ⟨(n*256+ax.toNat:Nat),(i+1:Nat),rfl,rfl,bE,uq,f1,(by first|refine TV aR a8 ?_;omega|(exfalso;omega)),e_⟩ uq).sub bj)))))))
   exact .go 7 rfl (.z (.n' c6 underlying3 rfl (IntWalk.i64_in _ uq)) (.ae 3 rfl (cM func136 rfl rfl rfl (an.mk ⟨_,_,rfl,(cR uo),⟨_,uo,rfl⟩,bE⟩))))
end Go.Proofs
