/-
  What the law WorkerDeaf needs, part 2 of 7: theory, and walks through the code. Names are said short.
-/
import Derived.Test.YtjideiielmlccaaGreatSWorkerDeafA
set_option linter.unusedVariables false
set_option linter.unusedSimpArgs false
set_option maxRecDepth 20000
set_option maxHeartbeats 8000000
namespace Go.ak
open Go.aH
def rN(s:aj):Prop:=(255:UInt8)∉s
theorem wj{n:Nat}(h:n % 256≠255):hP n≠255:=λe=>by
 have:=congrArg UInt8.toNat e
 rw[xx] at this
 exact h this
theorem adN{c:Nat}(h:kO c):rN (ei c):=by
 obtain⟨h1,ah,aB⟩:=h;unfold rN ei;repeat' split
 all_goals simp only[List.mem_cons,List.not_mem_nil,or_false,not_or]
 . exact λe=>wj aa e.symm
 . exact⟨λe=>wj aa e.symm,λe=>wj aa e.symm⟩
 . exact⟨λe=>wj aa e.symm,λe=>wj aa e.symm,λe=>wj aa e.symm⟩
 . exact⟨λe=>wj aa e.symm,λe=>wj aa e.symm,λe=>wj aa e.symm,λe=>wj aa e.symm⟩
theorem adO:∀s,im s->rN s:=
 L8 (by simp[rN]) λc t ao _ b'=>by
  have:=adN ao
  unfold rN at *
  rw[List.mem_append,not_or];exact⟨this,b'⟩
def p7(l:List aj):aj:=Lib.join l [255]
theorem Mj(x:aj)(r:List aj):p7 (x::r)=x++Lib.joinTail [255] r:=Lib.join_cons x r [255]
theorem tail_cons(x:aj)(r:List aj):Lib.joinTail [255] (x::r)=255::(x++Lib.joinTail [255] r):=by simp[Lib.joinTail]
theorem tail_nil:Lib.joinTail [255] []=[]:=rfl
theorem Mk:∀(x y u v:aj),rN x->rN y->(u=[]\/∃Es,u=255::Es)->(v=[]\/∃gQ,v=255::gQ)->x++u=y++v->x=y/\u=v
 | [],[],u,v,_,_,_,_,h=>⟨rfl,h⟩
 | [],b::y,u,v,_,aD,hu,_,h=>by
  simp only[List.nil_append,List.cons_append] at h
  rcases hu with rfl|⟨Es,rfl⟩
  . cases h
  . simp only[List.cons.injEq] at h
    exact absurd (by simp[h.1]) aD
 | a::x,[],u,v,ag,_,_,cI,h=>by
  simp only[List.nil_append,List.cons_append] at h
  rcases cI with rfl|⟨gQ,rfl⟩
  . cases h
  . simp only[List.cons.injEq] at h
    exact absurd (by simp[h.1]) ag
 | a::x,b::y,u,v,ag,aD,hu,cI,h=>by
  simp only[List.cons_append,List.cons.injEq] at h
  have:=Mk x y u v (λe=>ag (by simp[e])) (λe=>aD (by simp[e])) hu cI h.2
  exact⟨by rw[h.1,this.1],this.2⟩
theorem HZ(r:List aj):Lib.joinTail [255] r=[]\/∃u,Lib.joinTail [255] r=255::u:=by
 cases r with
 | nil=>exact .inl rfl
 | cons x r=>exact .inr ⟨_,tail_cons x r⟩
theorem TO:∀(r s:List aj),(∀x∈r,rN x)->(∀x∈s,rN x)->Lib.joinTail [255] r=Lib.joinTail [255] s->r=s
 | [],[],_,_,_=>rfl
 | [],y::s,_,_,h=>by rw[tail_nil,tail_cons] at h;cases h
 | x::r,[],_,_,h=>by rw[tail_nil,tail_cons] at h;cases h
 | x::r,y::s,a',aT,h=>by
  rw[tail_cons,tail_cons] at h
  simp only[List.cons.injEq,true_and] at h
  have:=Mk x y _ _ (a' x dg) (aT y dg) (HZ r) (HZ s) h
  rw[this.1,TO r s (λx ag=>a' x (by simp[ag])) (λx ag=>aT x (by simp[ag])) this.2]
theorem adP{l m:List aj}(bj:∀x∈l,rN x)(hm:∀x∈m,rN x)(h1:l≠[])(ah:m≠[])(h:p7 l=p7 m):l=m:=by
 cases l with
 | nil=>exact absurd rfl h1
 | cons x r =>
  cases m with
  | nil=>exact absurd rfl ah
  | cons y s =>
   rw[Mj,Mj] at h;have:=Mk x y _ _ (bj x dg) (hm y dg) (HZ r) (HZ s) h;rw[this.1,TO r s (λx ag=>bj x (by simp[ag])) (λx ag=>hm x (by simp[ag])) this.2]
theorem gu.EV{l:List aj}(h:gu l):∀x∈l,rN x:=λx ag=>adO x (h.o9 x ag)
def jg(l:List aj):Nat:=(l.map List.length).sum
theorem adQ(l:List aj):(p7 l).length<=jg l+l.length:=by
 cases l with
 | nil=>simp[p7,Lib.join,jg]
 | cons x r =>
  rw[Mj]
  have:∀r:List aj,(Lib.joinTail [255] r).length<=jg r+r.length:=by
   intro r
   induction r with
   | nil=>simp[tail_nil]
   | cons y r b'=>rw[tail_cons];simp only[jg,List.map_cons,List.sum_cons,List.length_cons,List.length_append] at *;omega
  have:=this r;simp only[jg,List.map_cons,List.sum_cons,List.length_cons,List.length_append] at *;omega
def l5(s:c5):List (aj×Int):=s.mapIdx λi x=>(p7 x.1,(i:Int))
theorem adR(s:c5)(x:List aj×List ca):l5 (s++[x])=l5 s++[(p7 x.1,(s.length:Int))]:=by
 unfold l5;rw[List.mapIdx_concat]
theorem adS{s t:c5}(h:names s=names t):l5 s=l5 t:=by
 unfold l5;have bj:s.length=t.length:=(by simpa[names] using congrArg List.length h);refine List.ext_getElem (by simp[bj]) λi h1 ah=>?_
 simp only[List.length_mapIdx] at h1 ah;simp only[List.getElem_mapIdx,Prod.mk.injEq,and_true];have:(names s)[i]'(by simpa[names] using h1)=(names t)[i]'(by simpa[names] using ah):=by simp only[h]
 simp only[names,List.getElem_map] at this;rw[this]
def wk(s:c5):Prop:=∀x∈s,x.1≠[]/\∀t∈x.1,rN t
theorem TP{r:List aj}(a':∀t∈r,rN t)(dG:r≠[]):∀(s:c5),wk s->gv (l5 s) (p7 r)=(s.findIdx? λx=>x.1==r).map λi:Nat=>(i:Int):=by
 intro s aT
 have key:∀(s:c5) (k:Nat),wk s->gv (s.mapIdx λi x=>(p7 x.1,((i+k:Nat):Int))) (p7 r)=(s.findIdx? λx=>x.1==r).map λi:Nat=>((i+k:Nat):Int):=by
  intro s
  induction s with
  | nil=>intro k _;rfl
  | cons x s b' =>
   intro k h
   rw[List.mapIdx_cons,List.findIdx?_cons]
   by_cases ag:x.1=r
   . simp[gv,ag]
   . have bo:p7 x.1≠p7 r:=λe=>ag (adP (h x dg).2 a' (h x dg).1 dG e)
     have:=b' (k+1) (λy aD=>h y (by simp[aD]))
     unfold gv at this ⊢
     rw[List.find?_cons]
     simp only[decide_eq_false bo]
     have fS:(λ(i:Nat) (x:List aj×List ca)=>(p7 x.1,((i+1+k:Nat):Int)))=λ(i:Nat) (x:List aj×List ca)=>(p7 x.1,((i+(k+1):Nat):Int)):=by
      funext i x;congr 2;omega
     rw[fS,this]
     have adT:(x.1==r)=false:=by simp[ag]
     simp only[adT,Bool.false_eq_true,if_false,Option.map_map]
     cases s.findIdx? λx=>x.1==r with
     | none=>rfl
     | some i=>simp only[Option.map_some,Function.comp_apply,Option.some.injEq];omega
 exact key s 0 aT
def jY(r:List aj):Bool:=decide (r.head?=some [])
def Ml(es:List ca)(r:Int):Option Int:=(es.find? λe=>e.rune==r).map ca.to
def fp{b3:Type}(f:b3->aj->b3×Bool):b3->List aj->b3×Bool
 | s,[]=>(s,true)
 | s,x::r=>if (f s x).2=true then fp f (f s x).1 r else((f s x).1,false)
theorem Mm{b3:Type}(f:b3->aj->b3×Bool):∀(a b:List aj) (s:b3),fp f s (a++b)=if (fp f s a).2=true then fp f (fp f s a).1 b else fp f s a
 | [],b,s=>by simp[fp]
 | x::a,b,s=>by
  simp only[List.cons_append,fp]
  split
  . rw[Mm f a b]
  . simp
theorem H0{x:List aj×List ca}(h:gu x.1):x.1=(if jY x.1=true then[[]] else[])++(gZ (fE x.1)).flatMap λg=>g.2.map (ei g.1++·):=by
 have hd:=u3 h;have ok:=xz _ _ (Nat.le_refl _) hd.1 hd.2;rw[ok.all];unfold jY
 cases ag:x.1 with
 | nil=>simp[fE]
 | cons a r =>
  cases a with
  | nil=>simp[fE]
  | cons y a=>simp[fE]
theorem nd.step{s:aj}{p:Nat}{l:List Int}(h:nd s p l)(he:s.drop p≠[])(hd:((dec (s.drop p)).1:Int)≠65533):nd s (p+(dec (s.drop p)).2) (l++[((dec (s.drop p)).1:Int)]):=by
 obtain⟨pre,h1,ah,aB⟩:=h.ex;refine⟨⟨_,h1.next he,by rw[ah,List.map_append];rfl,?_⟩⟩;simp only[List.mem_append,List.mem_singleton,not_or];exact⟨aB,λe=>hd aa⟩
theorem nd.v'{s:aj}{p:Nat}{l:List Int}(h:nd s p l)(he:s.drop p≠[])(hd:((dec (s.drop p)).1:Int)=65533):false=jX s:=by
 obtain⟨pre,h1,ah,aB⟩:=h.ex;have:=h1.mem he;have e:(dec (s.drop p)).1=65533:=(by omega);rw[e] at this;unfold jX;simp[this]
theorem nd.done{s:aj}{p:Nat}{l:List Int}(h:nd s p l)(he:s.drop p=[]):l=ea s/\true=jX s:=by
 obtain⟨pre,h1,ah,aB⟩:=h.ex;have:=h1.done he;refine⟨by rw[ah,ea,this],?_⟩;unfold jX;rw[this];simp[aB]
theorem nd.pos{s:aj}{p:Nat}{l:List Int}(h:nd s p l):p<=s.length:=by
 obtain⟨pre,h1,_⟩:=h.ex;exact h1.le
theorem Mn(s:aj):(jE s).length<=s.length:=by
 unfold jE;split
 . unfold ea;rw[List.length_map];exact SG s
 . simp
def xA(s:aj)(p:Nat)(hd:Int):Prop:=(p=0/\hd=0)\/(0<p/\p=l3 s/\hd=(ga s:Int))
theorem xA.next{s:aj}{p:Nat}{hd:Int}(h:xA s p hd)(he:s.drop p≠[])(bK:p=0):xA s (p+(dec (s.drop p)).2) ((dec (s.drop p)).1:Int):=by
 subst bK;simp only[List.drop_zero,Nat.zero_add] at he ⊢;have:=yI s he;exact .inr ⟨by omega,rfl,rfl⟩
theorem xA.ret{s:aj}{p:Nat}{hd:Int}(h:xA s p hd)(bK:0<p):hd=(ga s:Int)/\(p:Int)=((l3 s:Nat):Int):=by
 rcases h with h|h
 . omega
 . exact⟨h.2.2,by rw[h.2.1]⟩
theorem xA.fin{s:aj}{p:Nat}{hd:Int}(h:xA s p hd)(dG:s≠[])(he:s.drop p=[]):hd=(ga s:Int)/\(s.length:Int)=((l3 s:Nat):Int):=by
 rcases h with ⟨rfl,_⟩|⟨h1,ah,aB⟩
 . exact absurd (by simpa using he) dG
 . refine⟨aB,?_⟩;have bj:=Cl s dG;have:=congrArg List.length he;simp only[List.length_drop,List.length_nil] at this;unfold l3 at *;omega
theorem H2(s:aj):s≠[]->1<=l3 s/\l3 s<=s.length:=λh=>⟨yI s h,Cl s h⟩
theorem TQ(s:aj):ga s<=1114111:=Sz s
theorem TR{s p:aj}{b:Bool}(bj:(s.length:Int)>=(p.length:Int))(ab:b=(s.take p.length==p)):b=p.isPrefixOf s:=by
 rw[ab,Bool.eq_iff_iff,List.isPrefixOf_iff_prefix,beq_iff_eq];constructor
 . intro h;rw[<-h];exact List.take_prefix _ _
 . rintro⟨t,rfl⟩;simp
theorem TS{s p:aj}(bj:¬ (s.length:Int)>=(p.length:Int)):false=p.isPrefixOf s:=by
 cases h:p.isPrefixOf s with
 | false=>rfl
 | true =>
  rw[List.isPrefixOf_iff_prefix] at h;have:=h.length_le;omega
structure TT(es:List ca)(r:Int)(k:Nat):Prop where
 no:∀e∈es.take k,e.rune≠r
theorem TT.none{es:List ca}{r:Int}{k:Nat}(h:TT es r k)(hk:es.length<=k):(0:Int)=(Ml es r).getD 0/\false=(Ml es r).isSome:=by
 have aN:=h.no;rw[List.take_of_length_le hk] at aN
 have:es.find? (λe=>e.rune==r)=Option.none:=by
  rw[List.find?_eq_none]
  intro e he;simp[aN e he]
 unfold Ml;rw[this];exact⟨rfl,rfl⟩
end Go.ak
set_option linter.unusedSectionVars false
namespace Go.aH
open Go
theorem bx.Mo{P:Program}{E:Env}{C:World->Prop}{d:Option Tmp}{ty:TypeId}{pos:String}{af:Array Edge}{gd:Option (Nat×Bool)}{xt yt e:TypeId}{x y:Operand}{a:Option Addr}{n c:Nat}(hu:P.underlying xt=some (.slice e))(ag:aO E x=some (.slice a n c))(aD:aO E y=some (.slice none 0 0)):
 bx P ⟨d,.binOp .eql xt x y yt,ty,pos,af,gd⟩ E C (.bool a.isNone):=λs aw w _=>by
 have h:(Op.equal xt (.slice a n c) (.slice none 0 0)).run P w=.ok a.isNone w:=by
  have key:∀k,(Op.equalIn (k+1) xt (.slice a n c) (.slice none 0 0)).run P w=.ok a.isNone w:=λk=>by
   cases a<;>simp[Op.equalIn,run_underlying hu]
  exact key 9999
 have aU:(eqGuard .eql xt x y (.slice a n c) (.slice none 0 0)).run P w=.ok () w:=by
  unfold eqGuard;split<;>simp
 simp[execOp,aw.aO ag,aw.aO aD,aU,Go.binOp,h]
theorem aq.isNil{α:Type}{enc:α->List Value}{w:World}{F:Nat->Prop}{v:Value}{l:List α}(h:aq enc w F v l):∃a c,v=.slice a l.length c/\(a.isNone=true->l=[]):=by
 obtain⟨a,c,h1,ah,aB,bE⟩:=h;refine⟨a,c,h1,λaN=>?_⟩;rcases bE with bE|⟨b,off,c6,_⟩
 . exact bE
 . subst c6;cases aN
structure c7 where
 fin:Bool
 e:cK
def ft(x:c7):List Value:=[.bool x.fin,x.e.val]
theorem nJ(x:c7):(ft x).length=2:=rfl
theorem EW(x:c7):(ft x).all (·.oneCell')=true:=rfl
abbrev cw:=Bool×List ak.ca
def jZ(w:World)(F:Nat->Prop)(bn:List c7)(N:List cw):Prop:=cZ (λr n=>r.fin=n.1/\aq ak.e0 w F r.e.val n.2) bn N
theorem jZ.keep{M:Nat->Prop}{w an:World}{F:Nat->Prop}{bn:List c7}{N:List cw}(h:jZ w F bn N)(hm:Mod M w an)(bs:∀b,F b->¬ M b):jZ an F bn N:=
 cZ.imp (λr n ⟨h1,ah⟩=>⟨h1,ah.keep hm bs⟩) h
theorem jZ.ext{w an:World}{F:Nat->Prop}{bn:List c7}{N:List cw}(h:jZ w F bn N)(hm:Ext w an):jZ an F bn N:=h.keep hm (λ_ _ x=>x)
theorem jZ.mono{w:World}{F F':Nat->Prop}{bn:List c7}{N:List cw}(h:jZ w F bn N)(bs:∀b,F b->F' b):jZ w F' bn N:=
 cZ.imp (λr n ⟨h1,ah⟩=>⟨h1,ah.mono bs⟩) h
theorem jZ.at{w:World}{F:Nat->Prop}{bn:List c7}{N:List cw}(h:jZ w F bn N){i:Nat}{r:c7}(a':bn[i]?=some r):∃n,N[i]?=some n/\r.fin=n.1/\aq ak.e0 w F r.e.val n.2:=by
 have aU:=h.get;have hL:=(List.getElem?_eq_some_iff.1 a').1;have ag:N[i]?=some (N[i]'(by rw[<-aU.1];exact hL)):=(by simp);exact⟨_,ag,aU.2 i _ _ a' ag⟩
def ht(gt:TypeId)(w:World)(c0 ar:Nat)(v:Value)(N:List cw):Prop:=
 (v=.pointer none/\N=[])\/∃b gJ bn,v=ptr b 0/\N≠[]/\ki w c0 ar b [gJ]/\aq ft w (dq c0 ar) gJ bn/\jZ w (dq c0 ar) bn N
theorem ht.ext{gt:TypeId}{w an:World}{c0 ar:Nat}{v:Value}{N:List cw}(h:ht gt w c0 ar v N)(hm:Ext w an):ht gt an c0 ar v N:=by
 rcases h with h|⟨b,gJ,bn,h1,ah,aB,bE,c6⟩
 . exact .inl h
 . exact .inr ⟨b,gJ,bn,h1,ah,aB.ext hm,bE.ext hm,c6.ext hm⟩
theorem ht.bF{gt:TypeId}{w an:World}{c0 ar g:Nat}{v:Value}{N:List cw}(h:ht gt w c0 ar v N)(hm:Mod (b_ g) w an)(aU:g<=c0\/ar<g):ht gt an c0 ar v N:=by
 rcases h with h|⟨b,gJ,bn,h1,ah,aB,bE,c6⟩
 . exact .inl h
 . exact .inr ⟨b,gJ,bn,h1,ah,aB.bF hm aU,bE.bF hm aU,c6.keep hm λb ab ag=>by unfold dq b_ at *;omega⟩
def fT(s:ak.c5):List cw:=s.map λx=>(ak.jY x.1,x.2)
def nodeAt(N:List cw)(n:Int):cw:=if 0<=n then N[n.toNat]?.getD (false,[]) else(false,[])
theorem EX{N:List cw}{n:Int}(h:n<0\/(N.length:Int)<=n):nodeAt N n=(false,[]):=by
 unfold nodeAt;split
 . have:N[n.toNat]?=none:=List.getElem?_eq_none aa
   rw[this];rfl
 . rfl
theorem Mp{N:List cw}{n:Int}{x:cw}(h:0<=n)(ag:N[n.toNat]?=some x):nodeAt N n=x:=by
 unfold nodeAt;rw[if_pos h,ag];rfl
theorem jZ.bF{w an:World}{c0 ar g:Nat}{bn:List c7}{N:List cw}(h:jZ w (dq c0 ar) bn N)(hm:Mod (b_ g) w an)(aU:g<=c0\/ar<g):jZ an (dq c0 ar) bn N:=h.keep hm λb ab ag=>by unfold dq b_ at *;omega
theorem ht.pos{gt:TypeId}{w:World}{c0 ar:Nat}{v:Value}{N:List cw}(h:ht gt w c0 ar v N)(aN:0<N.length):∃b gJ bn,v=ptr b 0/\N≠[]/\ki w c0 ar b [gJ]/\aq ft w (dq c0 ar) gJ bn/\jZ w (dq c0 ar) bn N:=by
 rcases h with ⟨_,h⟩|h
 . subst h;simp at aN
 . exact h
theorem CC{N:List cw}(h:∀x∈N,x.2.length<=1000000)(n:Int):(nodeAt N n).2.length<=1000000:=by
 unfold nodeAt;split
 . cases ag:N[n.toNat]? with
   | none=>simp
   | some x=>exact h x (List.mem_of_getElem? ag)
 . simp
structure Mq(P:Program){b3:Type}(kP:FuncId)(first cap:List Value)(B:Nat)(Inv:b3->(Nat->Prop)->World->Prop)(ok:b3->aj->Prop)(f:b3->aj->b3×Bool):Prop where
 cl:b7 P kP=true
 ext:∀s F w an,Inv s F w->Ext w an->Inv s F an
 EY:∀s F w,Inv s F w->∀b,F b->B<=b/\b<w.heap.size
 call:∀s F w x,Inv s F w->ok s x->Calls P kP (first++[aE x]++cap).toArray w (al λaC an=>aC=.bool (f s x).2/\Mod F w an/\∃F',Inv (f s x).1 F' an/\∀b,F' b->F b\/w.heap.size<=b)
def xB(F:Nat->Prop)(B:Nat):Prop:=∀b,F b->B<=b
theorem xB.of{P:Program}{b3:Type}{kP:FuncId}{first cap:List Value}{B:Nat}{Inv:b3->(Nat->Prop)->World->Prop}{ok:b3->aj->Prop}{f:b3->aj->b3×Bool}(aD:Mq P kP first cap B Inv ok f){s:b3}{F:Nat->Prop}{w:World}(h:Inv s F w):xB F B:=λb ab=>(aD.EY s F w h b ab).1
theorem aq.tY{α:Type}{enc:α->List Value}{w an:World}{c0 ar B:Nat}{F:Nat->Prop}{v:Value}{l:List α}(h:aq enc w (dq c0 ar) v l)(hm:Mod F w an)(bs:xB F B)(aU:ar<=B):aq enc an (dq c0 ar) v l:=
 h.keep hm λb ab ag=>by have:=bs b ag;unfold dq at ab;omega
theorem ki.tY{w an:World}{c0 ar b B:Nat}{F:Nat->Prop}{cs:List Value}(h:ki w c0 ar b cs)(hm:Mod F w an)(bs:xB F B)(aU:ar<=B):ki an c0 ar b cs:=⟨h.1,h.2.1,h.2.2.keep hm λag=>by have:=h.2.1;have:=bs b ag;omega⟩
theorem jZ.tY{w an:World}{c0 ar B:Nat}{F:Nat->Prop}{bn:List c7}{N:List cw}(h:jZ w (dq c0 ar) bn N)(hm:Mod F w an)(bs:xB F B)(aU:ar<=B):jZ an (dq c0 ar) bn N:=h.keep hm λb ab ag=>by have:=bs b ag;unfold dq at ab;omega
theorem ht.tY{gt:TypeId}{w an:World}{c0 ar B:Nat}{F:Nat->Prop}{v:Value}{N:List cw}(h:ht gt w c0 ar v N)(hm:Mod F w an)(bs:xB F B)(aU:ar<=B):ht gt an c0 ar v N:=by
 rcases h with h|⟨b,gJ,bn,h1,ah,aB,bE,c6⟩
 . exact .inl h
 . exact .inr ⟨b,gJ,bn,h1,ah,aB.tY hm bs aU,bE.tY hm bs aU,c6.tY hm bs aU⟩
theorem AP.hb{F:Nat->Prop}{g:Nat}{w0 w an:World}(h:Mod F w0 w)(k:Mod (b_ g) w an)(aU:g=0\/w0.heap.size<g):Mod F w0 an:=h.then k (λi ar bj=>by unfold b_ at ar;omega)
theorem AP.Mr{F F':Nat->Prop}{w0 w an:World}(h:Mod F w0 w)(k:Mod F' w an)(bs:∀b,F' b->F b\/w0.heap.size<=b):Mod F w0 an:=h.then k (λi ar bj=>(bs i ar).resolve_right aa)
def l6{b3:Type}(ok:b3->aj->Prop)(f:b3->aj->b3×Bool):b3->List aj->Prop
 | _,[]=>True
 | s,x::r=>ok s x/\((f s x).2=true->l6 ok f (f s x).1 r)
theorem l6.app{b3:Type}{ok:b3->aj->Prop}{f:b3->aj->b3×Bool}:∀{a b:List aj} {s:b3},l6 ok f s (a++b)->l6 ok f s a/\((ak.fp f s a).2=true->l6 ok f (ak.fp f s a).1 b)
 | [],b,s,h=>⟨trivial,λ_=>h⟩
 | x::a,b,s,h=>by
  have h1:ok s x/\((f s x).2=true->l6 ok f (f s x).1 (a++b)):=h
  constructor
  . exact⟨h1.1,λag=>(l6.app (h1.2 ag)).1⟩
  . intro he
    unfold ak.fp at he ⊢
    split at he
    . rename_i ag
      rw[if_pos ag]
      exact(l6.app (h1.2 ag)).2 he
    . cases he
open ak in
def tc(ahead:aj)(r:List aj)(k:Nat):List aj:=((gZ (fE r)).drop k).flatMap λg=>g.2.map λt=>ahead++(ei g.1++t)
open ak in
theorem TU{ahead:aj}{r:List aj}(h:gu r):r.map (ahead++·)=(if jY r=true then[ahead] else[])++tc ahead r 0:=by
 have aw:=H0 (x:=(r,[])) h;simp only at aw;unfold tc
 conv=>lhs;rw[aw]
 rw[List.map_append,List.drop_zero,List.map_flatMap];congr 1
 . split<;>simp
 . simp[List.map_map,Function.comp_def]
open ak in
theorem sq{ahead:aj}{r:List aj}{k:Nat}{g:Nat×List aj}(aU:(gZ (fE r))[k]?=some g):tc ahead r k=g.2.map ((ahead++ei g.1)++·)++tc ahead r (k+1):=by
 obtain⟨hk,rfl⟩:=List.getElem?_eq_some_iff.1 aU;unfold tc;rw[List.drop_eq_getElem_cons hk,List.flatMap_cons];congr 1
 simp
open ak in
theorem wm{ahead:aj}{r:List aj}{k:Nat}(h:(gZ (fE r)).length<=k):tc ahead r k=[]:=by
 unfold tc;rw[List.drop_of_length_le h];rfl
open ak in
theorem wo{b3:Type}{f:b3->aj->b3×Bool}{dB ew:b3}{all rest a b:List aj}(h:fp f dB all=fp f ew rest)(a':rest=a++b)(ab:(fp f ew a).2=false):fp f dB all=fp f ew a:=by
 rw[h,a',Mm,if_neg (by rw[ab];simp)]
open ak in
theorem TV{b3:Type}{f:b3->aj->b3×Bool}{dB ew:b3}{all rest a b:List aj}(h:fp f dB all=fp f ew rest)(a':rest=a++b)(ab:(fp f ew a).2=true):fp f dB all=fp f (fp f ew a).1 b:=by
 rw[h,a',Mm,if_pos ab]
open ak in
theorem Ms{b3:Type}{f:b3->aj->b3×Bool}{s:b3}{a:aj}{r:List aj}(h:(f s a).2=true):fp f s ([a]++r)=fp f (f s a).1 r:=by
 simp[fp,h]
open ak in
theorem u5{b3:Type}{f:b3->aj->b3×Bool}{s:b3}{a:aj}{r:List aj}(h:(f s a).2=false):fp f s ([a]++r)=((f s a).1,false):=by
 simp[fp,h]
open ak in
open ak in
theorem AQ{s:c5}{x:List aj×List ca}(ao:o_ s x)(jF:gu x.1){k:Nat}{e:ca}(he:x.2[k]?=some e):∃(g:Nat×List aj) (j:Nat) (es:List ca),(gZ (fE x.1))[k]?=some g/\e.rune=(g.1:Int)/\e.to=(j:Int)/\s[j]?=some (g.2,es)/\kO g.1/\g.2≠[]:=by
 have aU:=cZ.get ao;have hL:=(List.getElem?_eq_some_iff.1 he).1;have ag:(gZ (fE x.1))[k]?=some ((gZ (fE x.1))[k]'(by rw[aU.1];exact hL)):=(by simp);obtain⟨h1,j,es,ah,aB⟩:=aU.2 k _ _ ag he;have hd:=u3 jF;have ok:=xz _ _ (Nat.le_refl _) hd.1 hd.2;have bX:=ok.fO _ (List.mem_of_getElem? ag);exact⟨_,j,es,ag,h1,ah,aB,bX.1,bX.2.1⟩
open ak in
theorem CD{l:List aj}(aU:gu l){d k:Nat}{g:Nat×List aj}(h:Deep d l)(hk:(gZ (fE l))[k]?=some g):∃e,d=e+1/\Deep e g.2:=by
 have iQ:=List.mem_of_getElem? hk
 cases d with
 | zero =>
  exfalso;have hd:=u3 aU;have ok:=xz _ _ (Nat.le_refl _) hd.1 hd.2
  obtain⟨t,a8⟩:∃t,t∈g.2:=by
   cases eH:g.2 with
   | nil=>exact absurd eH (ok.fO g iQ).2.1
   | cons t _=>exact⟨t,by simp⟩
  have hm:ei g.1++t∈fE l:=by
   rw[<-ok.all]
   exact List.mem_flatMap.2 ⟨g,iQ,List.mem_map.2 ⟨t,a8,rfl⟩⟩
  have:=h _ (AI hm);rw[wg (ok.fO g iQ).1] at this;simp at this
 | succ e=>exact⟨e,rfl,Tx aU h g iQ⟩
open ak in
theorem AR{s:c5}{n:Nat}{x:List aj×List ca}(h:s[n]?=some x):nodeAt (fT s) (n:Int)=(jY x.1,x.2):=by
 refine Mp aa ?_;simp[fT,h]
theorem u6(s:ak.c5):(fT s).length=s.length:=by simp[fT]
theorem xC(c:Nat):(ak.ei c).length<=4:=by
 unfold ak.ei;repeat' split
 all_goals simp
structure tZ(N:List cw)(s:ak.c5)(words:List aj):Prop where
 nodes:N=fT s
 root:∃es,nodeAt N 0=(ak.jY words,es)/\ak.o_ s (words,es)
 fO:ak.gu words
 deep:ak.Deep 12 words
 node:∀y∈s,ak.o_ s y/\ak.gu y.1/\ak.Deep 12 y.1
 size:s.length<=1000000
 TW:∀y∈s,y.2.length<=1000000
theorem tZ.of{s:ak.c5}{words:List aj}(h:ak.TC s words)(aT:s.length<=1000000)(Lt:∀y∈s,y.2.length<=1000000):tZ (fT s) s words:=by
 obtain⟨es,he⟩:=h.root;have aN:=h.node _ (List.mem_of_getElem? he);exact⟨rfl,⟨es,AR he,aN.wi⟩,aN.fO,aN.deep,λy aD=>⟨(h.node y aD).wi,(h.node y aD).fO,(h.node y aD).deep⟩,aT,Lt⟩
theorem tZ.empty:tZ [(false,[])] [([],[])] []:=⟨rfl,⟨[],rfl,.nil⟩,⟨List.Pairwise.nil,by simp⟩,by simp[ak.Deep],by
 intro y aD
 simp only[List.mem_singleton] at aD
 subst aD
 exact⟨.nil,⟨List.Pairwise.nil,by simp⟩,by simp[ak.Deep]⟩,by simp,by simp⟩
def wq(rO e:TypeId)(e7 B:Nat)(l:List aj)(F:Nat->Prop)(w:World):Prop:=
 ∃v g,dv w e7 [v] rO/\Acc cC e 1 w g v l/\e7+1≠g/\B<=e7/\(g=0\/B<g)/\∀b,F b↔b=e7\/b+1=g
theorem wq.ext{rO e:TypeId}{e7 B:Nat}{l:List aj}{F:Nat->Prop}{w an:World}(h:wq rO e e7 B l F w)(hm:Ext w an):wq rO e e7 B l F an:=by
 obtain⟨v,g,h1,ah,aB⟩:=h;exact⟨v,g,h1.ext hm,ah.ext hm,aB⟩
theorem wq.EY{rO e:TypeId}{e7 B:Nat}{l:List aj}{F:Nat->Prop}{w:World}(h:wq rO e e7 B l F w):∀b,F b->B<=b/\b<w.heap.size:=by
 obtain⟨v,g,h1,ah,aB,bE,c6,eZ⟩:=h;intro b ab;have bj:=h1.lt;have aU:=ah.lt;rcases(eZ b).1 ab with e|e
 . omega
 . omega
theorem wq.go{rO e:TypeId}{e7 B:Nat}{jV:List aj}{F:Nat->Prop}{w an:World}{gQ:Value}{g fv:Nat}(eZ:∀b,F b↔b=e7\/b+1=g)(fX:B<=e7)(c6:g=0\/B<g)(dG:e7+1≠g)(ab:e7<w.heap.size)(bC:dv an e7 [gQ] rO)(cy:Acc cC e 1 an fv gQ jV)(dE:fv=g\/w.heap.size<fv):
 ∃F',wq rO e e7 B jV F' an/\∀b,F' b->F b\/w.heap.size<=b:=
 ⟨λb=>b=e7\/b+1=fv,⟨gQ,fv,bC,cy,by omega,fX,by omega,λb=>Iff.rfl⟩,λb yL=>by
  rcases yL with e|e
  . exact .inl ((eZ b).2 (.inl e))
  . rcases dE with dE|dE
    . exact .inl ((eZ b).2 (.inr aa))
    . exact .inr aa⟩
theorem TX:∀(L l:List aj),ak.fp (λ(s:List aj) x=>(s++[x],true)) l L=(l++L,true)
 | [],l=>by simp[ak.fp]
 | x::L,l=>by
  simp only[ak.fp,if_true]
  rw[TX L (l++[x])];simp
theorem TY(m:Nat):∀(L l:List aj),l.length+L.length<=m->l6 (λ(s:List aj) (_:aj)=>s.length<=m) (λs x=>(s++[x],true)) l L
 | [],l,_=>trivial
 | x::L,l,h=>⟨by simp only[List.length_cons] at h;omega,λ_=>TY m L (l++[x]) (by simp only[List.length_cons,List.length_append,List.length_nil] at h ⊢;omega)⟩
theorem wu{α:Type}{l:List α}{k:Nat}{x:α}(ag:l[k]?=some x):l.drop k=x::l.drop (k+1):=by
 obtain⟨h,rfl⟩:=List.getElem?_eq_some_iff.1 ag;exact List.drop_eq_getElem_cons h
open ak in
open ak in
open ak in
open ak in
theorem adU{w:aj}{k:Nat}{r:Int}(h:(jE w)[k]?=some r):im w/\∃c:Nat,(hc w)[k]?=some c/\r=(c:Int)/\kO c:=by
 unfold jE at h;split at h
 . rename_i bB;have bB:=Tl.1 bB;unfold ea at h;rw[List.getElem?_map] at h;obtain⟨c,ao,rfl⟩:=Option.map_eq_some_iff.1 h;exact⟨bB,c,ao,rfl,(HT w bB).2 c (List.mem_of_getElem? ao)⟩
 . simp at h
open ak in
open ak in
open ak in
theorem tZ.yU{N:List cw}{s:c5}{words:List aj}(h:tZ N s words):(∀x∈N,∀e∈x.2,bY e.to/\-2147483648<=e.rune/\e.rune<=2147483647)/\N.length<=1000000/\∀x∈N,x.2.length<=1000000:=by
 rw[h.nodes];refine⟨λx ag e he=>?_,by rw[u6];exact h.size,λx ag=>?_⟩
 . obtain⟨y,aD,rfl⟩:=List.mem_map.1 ag;obtain⟨k,hk⟩:=List.mem_iff_getElem?.1 he;obtain⟨g,j,es,h1,ah,aB,bE,c6,eZ⟩:=AQ (h.node y aD).1 (h.node y aD).2.1 hk;have:=(List.getElem?_eq_some_iff.1 bE).1;have:=h.size;obtain⟨kB,_⟩:=c6;unfold bY;omega
 . obtain⟨y,aD,rfl⟩:=List.mem_map.1 ag;exact h.TW y aD
theorem adV{w:aj}{k:Nat}{r:Int}(h:(ak.jE w)[k]?=some r):0<=r/\r<=1114111:=by
 obtain⟨_,c,_,rfl,h1,_⟩:=adU h;omega
end Go.aH
namespace Go.aH
open Go Go.Proofs
theorem adW(l:List aj):l.flatMap cC=l.map aE:=by
 induction l with
 | nil=>rfl
 | cons a l b'=>simp[cC,b']
theorem adX{P:Program}{Mt:Go.Shelf.Ren}(L:Lays.n156 P Mt)(X:Builder.Extra P Mt){w0:World}{F:Nat->Prop}{v:Value}{l:List aj}(h:aq cC w0 F v l)(dG:l≠[])(ab:∀b,F b->b<w0.heap.size)(hlen:ak.jg l+l.length<=100000000):
 Calls P (Mt.f 156) #[v,aE [255]] w0 (al λaC ai=>aC=aE (ak.p7 l)/\Ext w0 ai):=by
 obtain⟨a,cap,rfl,ah,aB,bE⟩:=h;rcases bE with bE|⟨b,off,rfl,bs,a'⟩
 . exact absurd bE dG
 . have bo:=ak.adQ l
   have TZ:(l.map λs:aj=>(⟨s.toArray⟩:ByteArray)).map (·.data.toList)=l:=by
    rw[List.map_map]
    conv=>rhs;rw[<-List.map_id l]
    exact List.map_congr_left λs _=>by simp
   have ao:=Any.strings_Join_48 L X b off cap (l.map λs:aj=>(⟨s.toArray⟩:ByteArray)) ⟨#[255]⟩ w0 (λj x ag=>by
    rw[List.getElem?_map] at ag
    obtain⟨s,aT,rfl⟩:=Option.map_eq_some_iff.1 ag
    have:=a' j (aE s) (by rw[adW,List.getElem?_map,aT];rfl)
    exact this) (ab b bs) (by rw[List.length_map];omega) (by rw[List.length_map];exact ah) (by
    rw[TZ]
    have:(ak.p7 l).length<=281474976710656:=by omega
    exact this)
   rw[List.length_map,TZ] at ao;refine Calls.mono ao ?_;rintro e an ⟨rfl,hw⟩;exact⟨_,rfl,rfl,Mod.abU hw⟩
end Go.aH
set_option linter.unusedSectionVars false
namespace Go.aH
open Go
structure dk (R:Nat->Prop) where
 p:(Nat->Prop)->World->Prop
 keep:∀{F:Nat->Prop} {w an:World} {M:Nat->Prop},p F w->Mod M w an->(∀b,F b->¬ M b)->(∀b,R b->¬ M b)->p F an
def Sep{R:Nat->Prop}(L:List (dk R))(kj:Nat->Prop)(w:World):Prop:=
 ∃fe:Nat->Nat->Prop,(∀(i:Nat) (A:dk R),L[i]?=some A->A.p (fe i) w)/\(∀i b,fe i b->(kj b/\¬ R b)/\b<w.heap.size)/\∀i j b,i≠j->fe i b->¬ fe j b
section
variable {R:Nat->Prop} {L:List (dk R)} {kj:Nat->Prop} {w an:World}
theorem Sep.keep{M:Nat->Prop}(h:Sep L kj w)(hm:Mod M w an)(adY:∀b,kj b->b<w.heap.size->¬ M b)(fm:∀b,R b->¬ M b):Sep L kj an:=by
 obtain⟨fe,h1,ah,aB⟩:=h;exact⟨fe,λi A bf=>A.keep (h1 i A bf) hm (λb ab=>adY b (ah i b ab).1.1 (ah i b ab).2) fm,λi b ab=>⟨(ah i b ab).1,Nat.lt_of_lt_of_le (ah i b ab).2 hm.size⟩,aB⟩
theorem Sep.act{i:Nat}{A:dk R}(h:Sep L kj w)(fm:∀b,R b->b<w.heap.size)(ar:L[i]?=some A):∃F,A.p F w/\(∀b,F b->(kj b/\¬ R b)/\b<w.heap.size)/\∀(an:World) (F':Nat->Prop) (A':dk R),Mod F w an->A'.p F' an->(∀b,F' b->b<an.heap.size/\(F b\/(w.heap.size<=b/\kj b)))->Sep (L.set i A') kj an:=by
 obtain⟨fe,h1,ah,aB⟩:=h;refine⟨fe i,h1 i A ar,ah i,λan F' A' hm EZ rP=>⟨λk=>if k=i then F' else fe k,λk B fX=>?_,λk b ab=>?_,λj k b n_ bo hk=>?_⟩⟩
 . by_cases hk:k=i
   . subst hk;rw[List.getElem?_set_self (List.getElem?_eq_some_iff.1 ar).1] at fX;simp only[if_true];cases fX;exact EZ
   . rw[List.getElem?_set_ne (λe=>hk e.symm)] at fX;simp only[if_neg hk];exact B.keep (h1 k B fX) hm (λb ab ag=>aB k i b hk ab ag) λb ab ag=>(ah i b ag).1.2 ab
 . by_cases hk:k=i
   . subst hk;simp only[if_true] at ab;obtain⟨bE,c6⟩:=rP b ab;exact⟨c6.elim (λh=>(ah k b h).1) (λh=>⟨h.2,λa'=>by have:=fm b a';omega⟩),bE⟩
   . simp only[if_neg hk] at ab;exact⟨(ah k b ab).1,Nat.lt_of_lt_of_le (ah k b ab).2 hm.size⟩
 . by_cases iZ:j=i
   . have n9:k≠i:=λe=>n_ (iZ.trans e.symm)
     simp only[if_pos iZ] at bo;simp only[if_neg n9] at hk;rcases(rP b bo).2 with c6|c6
     . exact aB i k b (λe=>n9 e.symm) c6 hk
     . have:=(ah k b hk).2;omega
   . simp only[if_neg iZ] at bo;by_cases n9:k=i
     . simp only[if_pos n9] at hk;rcases(rP b hk).2 with c6|c6
       . exact aB j i b iZ bo c6
       . have:=(ah j b bo).2;omega
     . simp only[if_neg n9] at hk;exact aB j k b n_ bo hk
theorem Sep.new{A:dk R}{F:Nat->Prop}(h:Sep L kj w)(fm:∀b,R b->b<w.heap.size)(hm:Ext w an)(bf:A.p F an)(bs:∀b,F b->kj b/\w.heap.size<=b/\b<an.heap.size):Sep (L++[A]) kj an:=by
 obtain⟨fe,h1,ah,aB⟩:=h;refine⟨λk=>if k=L.length then F else fe k,λk B fX=>?_,λk b ab=>?_,λj k b n_ bo hk=>?_⟩
 . by_cases hk:k=L.length
   . subst hk;rw[List.getElem?_append_right (Nat.le_refl _)] at fX;simp only[Nat.sub_self,List.getElem?_cons_zero,Option.some.injEq] at fX;subst fX;simp only[if_true];exact bf
   . simp only[if_neg hk];have hL:=(List.getElem?_eq_some_iff.1 fX).1;simp only[List.length_append,List.length_cons,List.length_nil] at hL;rw[List.getElem?_append_left aa] at fX;exact B.keep (h1 k B fX) hm (λb ab ag=>ag) λ_ _ ag=>ag
 . by_cases hk:k=L.length
   . simp only[if_pos hk] at ab;exact⟨⟨(bs b ab).1,λa'=>by have:=fm b a';have:=(bs b ab).2.1;omega⟩,(bs b ab).2.2⟩
   . simp only[if_neg hk] at ab;exact⟨(ah k b ab).1,Nat.lt_of_lt_of_le (ah k b ab).2 hm.size⟩
 . by_cases iZ:j=L.length
   . have n9:k≠L.length:=λe=>n_ (iZ.trans e.symm)
     simp only[if_pos iZ] at bo;simp only[if_neg n9] at hk;have:=(ah k b hk).2;have:=(bs b bo).2.1;omega
   . simp only[if_neg iZ] at bo;by_cases n9:k=L.length
     . simp only[if_pos n9] at hk;have:=(ah j b bo).2;have:=(bs b hk).2.1;omega
     . simp only[if_neg n9] at hk;exact aB j k b n_ bo hk
theorem T0{α:Type}{L:List α}:∀(is:List Nat) (k:Nat),(∀i∈is,i<L.length)->(is.filterMap λi=>L[i]?)[k]?=(is[k]?).bind λi=>L[i]?
 | [],k,_=>by simp
 | i::is,0,h=>by
  have:=h i dg
  simp[List.getElem?_eq_getElem this]
 | i::is,k+1,h=>by
  have:=h i dg
  rw[List.filterMap_cons,List.getElem?_eq_getElem this]
  simp only[List.getElem?_cons_succ]
  exact T0 is k λj bo=>h j (by simp[bo])
theorem Sep.yY(is:List Nat)(h:Sep L kj w)(bj:(is.all λi=>decide (i<L.length))=true)(aN:is.Nodup):Sep (is.filterMap λi=>L[i]?) kj w:=by
 obtain⟨fe,h1,ah,aB⟩:=h;have H3:∀i∈is,i<L.length:=λi ar=>of_decide_eq_true (List.all_eq_true.1 bj i ar)
 refine⟨λk b=>∃i,is[k]?=some i/\fe i b,λk B fX=>?_,λk b ab=>?_,λj k b n_ bo hk=>?_⟩
 . rw[T0 is k H3] at fX;obtain⟨i,ar,fX⟩:=Option.bind_eq_some_iff.1 fX
   have e:(λb=>∃i,is[k]?=some i/\fe i b)=fe i:=by
    funext b
    rw[ar]
    exact propext ⟨λ⟨j,bo,ab⟩=>by cases bo;exact ab,λab=>⟨i,rfl,ab⟩⟩
   show B.p (λb=>∃i,is[k]?=some i/\fe i b) w;rw[e];exact h1 i B fX
 . obtain⟨i,_,ab⟩:=ab;exact ah i b ab
 . obtain⟨i,ar,Mu⟩:=bo;obtain⟨Sf,uT,adZ⟩:=hk;refine aB i Sf b (λe=>?_) Mu adZ;subst e;obtain⟨eb,q2⟩:=List.getElem?_eq_some_iff.1 ar;obtain⟨fx,gw⟩:=List.getElem?_eq_some_iff.1 uT;exact n_ ((List.getElem_inj aN).1 (q2.trans gw.symm))
theorem Sep.imp{i:Nat}{A A':dk R}(h:Sep L kj w)(fm:∀b,R b->b<w.heap.size)(ar:L[i]?=some A)(bf:∀F,A.p F w->A'.p F w):Sep (L.set i A') kj w:=by
 obtain⟨F,h1,ah,k⟩:=h.act fm ar;exact k w F A' (Mod.refl _ _) (bf F h1) λb ab=>⟨(ah b ab).2,.inl ab⟩
theorem Sep.two{i j:Nat}{A B:dk R}(h:Sep L kj w)(ar:L[i]?=some A)(bo:L[j]?=some B)(aN:i≠j):∃F G,A.p F w/\B.p G w/\(∀b,G b->¬ F b):=by
 obtain⟨fe,h1,ah,aB⟩:=h;exact⟨fe i,fe j,h1 i A ar,h1 j B bo,λb ab ag=>aB i j b aN ag ab⟩
end
def bk{R:Nat->Prop}(L:List (dk R)):dk R:=⟨λF w=>Sep L F w,λh hm bs fm=>h.keep hm (λb ab _=>bs b ab) fm⟩
theorem Sep.close{R:Nat->Prop}{L1 L2:List (dk R)}{kj:Nat->Prop}{w:World}(h:Sep (L1++L2) kj w):Sep (L1++[bk L2]) kj w:=by
 obtain⟨fe,h1,ah,aB⟩:=h;refine⟨λk b=>if k<L1.length then fe k b else k=L1.length/\∃j,fe (L1.length+j) b,λk B fX=>?_,λk b ab=>?_,λj k b n_ bo hk=>?_⟩
 . by_cases hk:k<L1.length
   . simp only[if_pos hk];rw[List.getElem?_append_left hk] at fX;exact h1 k B (by rw[List.getElem?_append_left hk];exact fX)
   . have hL:=(List.getElem?_eq_some_iff.1 fX).1;simp only[List.length_append,List.length_cons,List.length_nil] at hL;have rD:k=L1.length:=(by omega);subst rD;rw[List.getElem?_append_right (Nat.le_refl _)] at fX;simp only[Nat.sub_self,List.getElem?_cons_zero,Option.some.injEq] at fX;subst fX;simp only[Nat.lt_irrefl,if_false,true_and];exact⟨λj=>fe (L1.length+j),λj A bf=>h1 _ A (by rw[List.getElem?_append_right aa,Nat.add_sub_cancel_left];exact bf),λj b ab=>⟨⟨⟨j,ab⟩,(ah _ b ab).1.2⟩,(ah _ b ab).2⟩,λi j b mY=>aB _ _ b aa⟩
 . by_cases hk:k<L1.length
   . simp only[if_pos hk] at ab;exact ah k b ab
   . simp only[if_neg hk] at ab;obtain⟨_,j,ab⟩:=ab;exact ah _ b ab
 . by_cases E0:j<L1.length
   . simp only[if_pos E0] at bo;by_cases rD:k<L1.length
     . simp only[if_pos rD] at hk;exact aB j k b n_ bo hk
     . simp only[if_neg rD] at hk;obtain⟨_,m,hk⟩:=hk;exact aB j _ b aa bo hk
   . simp only[if_neg E0] at bo;obtain⟨e,m,bo⟩:=bo;by_cases rD:k<L1.length
     . simp only[if_pos rD] at hk;exact aB _ k b aa bo hk
     . simp only[if_neg rD] at hk;exact n_ (e.trans hk.1.symm)
theorem Sep.open{R:Nat->Prop}{L1 L2:List (dk R)}{kj:Nat->Prop}{w:World}(h:Sep (L1++[bk L2]) kj w):Sep (L1++L2) kj w:=by
 obtain⟨fe,h1,ah,aB⟩:=h;obtain⟨T1,g1,g2,g3⟩:=h1 L1.length (bk L2) (by rw[List.getElem?_append_right (Nat.le_refl _)];simp);refine⟨λk=>if k<L1.length then fe k else T1 (k-L1.length),λk B fX=>?_,λk b ab=>?_,λj k b n_ bo hk=>?_⟩
 . by_cases hk:k<L1.length
   . simp only[if_pos hk];rw[List.getElem?_append_left hk] at fX;exact h1 k B (by rw[List.getElem?_append_left hk];exact fX)
   . simp only[if_neg hk];rw[List.getElem?_append_right aa] at fX;exact g1 _ B fX
 . by_cases hk:k<L1.length
   . simp only[if_pos hk] at ab;exact ah k b ab
   . simp only[if_neg hk] at ab;exact⟨(ah _ b (g2 _ b ab).1.1).1,(g2 _ b ab).2⟩
 . by_cases E0:j<L1.length
   . simp only[if_pos E0] at bo;by_cases rD:k<L1.length
     . simp only[if_pos rD] at hk;exact aB j k b n_ bo hk
     . simp only[if_neg rD] at hk;exact aB j L1.length b aa bo (g2 _ b hk).1.1
   . simp only[if_neg E0] at bo;by_cases rD:k<L1.length
     . simp only[if_pos rD] at hk;exact aB L1.length k b aa (g2 _ b bo).1.1 hk
     . simp only[if_neg rD] at hk;exact g3 _ _ b aa bo hk
section
variable {R:Nat->Prop}
def ax(b:Nat)(cs:List Value)(e:TypeId):dk R:=⟨λF w=>dv w b cs e/\F b,λh hm bs _=>⟨h.1.keep hm (bs b h.2),h.2⟩⟩
def aS{α:Type}(enc:α->List Value)(e:TypeId)(sz:Nat)(v:Value)(l:List α):dk R:=
 ⟨λF w=>∃g,Acc enc e sz w g v l/\∀b,b+1=g->F b,λ⟨g,h1,ah⟩ hm bs _=>⟨g,h1.keep hm λb ab=>bs b (ah b ab.symm),ah⟩⟩
def fa{α:Type}(enc:α->List Value)(vs:List (Value×List α)):dk R:=
 ⟨λF w=>∀x∈vs,aq enc w (λb=>F b\/R b) x.1 x.2,λh hm bs fm x ag=>(h x ag).keep hm λb ab=>ab.elim (bs b) (fm b)⟩
def lx{α β:Type}[DecidableEq α](key:α->Value)(val:β->Value)(b:Nat)(m:List (α×β)):dk R:=
 ⟨λF w=>ng key val w b m/\F b,λ{F w an M} h hm bs _=>⟨by
  obtain⟨⟨es,c,h1,ah⟩,ab⟩:=h
  exact⟨es,c,hm.keep _ _ h1 (bs b ab),ah⟩,h.2⟩⟩
def nK{α:Type}(A:α->dk R):dk R:=⟨λF w=>∃a,(A a).p F w,λ⟨a,h⟩ hm bs fm=>⟨a,(A a).keep h hm bs fm⟩⟩
def pD(P:Prop)(A:dk R):dk R:=⟨λF w=>P/\A.p F w,λh hm bs fm=>⟨h.1,A.keep h.2 hm bs fm⟩⟩
def wv:dk R:=⟨λ_ _=>True,λ_ _ _ _=>trivial⟩
end
theorem Mv{F:Nat->Prop}{b:Nat}{w an:World}(hm:Mod (b_ (b+1)) w an)(ab:F b):Mod F w an:=hm.weaken λsl yL _=>by
 have e:sl=b:=by unfold b_ at yL;omega
 rw[e];exact ab
structure au(R bS:Nat->Prop)(w0 w:World)(L:List (dk R)):Prop where
 mod:Mod bS w0 w
 wx:∀b,R b->b<w0.heap.size/\¬ bS b
 sep:Sep L (λb=>bS b\/w0.heap.size<=b) w
section
variable {R bS:Nat->Prop} {w0 w an:World} {L:List (dk R)} {i j:Nat} {A B:dk R}
theorem au.t_(h:au R bS w0 w L):∀b,R b->b<w.heap.size:=λb ab=>Nat.lt_of_lt_of_le (h.wx b ab).1 h.mod.size
theorem au.start(w0:World)(fm:∀b,R b->b<w0.heap.size):au R (λ_=>False) w0 w0 []:=⟨Mod.refl _ _,λb ab=>⟨fm b ab,id⟩,⟨λ_ _=>False,λi A h=>by simp at h,λ_ _ h=>h.elim,λ_ _ _ _ h=>h.elim⟩⟩
theorem au.fZ(w0:World):au (λ_=>False) (λ_=>False) w0 w0 []:=au.start w0 λ_ h=>h.elim
theorem au.hr{F:Nat->Prop}(bf:A.p F w0)(bs:∀b,F b->b<w0.heap.size/\¬ R b)(fm:∀b,R b->b<w0.heap.size):au R F w0 w0 [A]:=⟨Mod.refl _ _,λb ab=>⟨fm b ab,λh=>(bs b h).2 ab⟩,⟨λi b=>i=0/\F b,λi B h=>by
 cases i with
 | zero =>
  simp only[List.getElem?_cons_zero,Option.some.injEq] at h
  subst h
  simpa using bf
 | succ i=>simp at h,λi b h=>⟨⟨.inl h.2,(bs b h.2).2⟩,(bs b h.2).1⟩,λi j b mY h1 ah=>mY (h1.1.trans ah.1.symm)⟩⟩
theorem au.ext(h:au R bS w0 w L)(hm:Ext w an):au R bS w0 an L:=⟨h.mod.ext hm,h.wx,h.sep.keep hm (λ_ _ _ x=>x) λ_ _ x=>x⟩
theorem au.get(h:au R bS w0 w L)(ar:L[i]?=some A):∃F,A.p F w/\∀b,F b->b<w.heap.size:=by
 obtain⟨fe,h1,ah,_⟩:=h.sep;exact⟨fe i,h1 i A ar,λb ab=>(ah i b ab).2⟩
theorem au.act(h:au R bS w0 w L)(ar:L[i]?=some A):∃F,A.p F w/\(∀b,F b->((bS b\/w0.heap.size<=b)/\¬ R b)/\b<w.heap.size)/\∀(an:World) (F':Nat->Prop) (A':dk R),Mod F w an->A'.p F' an->(∀b,F' b->b<an.heap.size/\(F b\/w.heap.size<=b))->au R bS w0 an (L.set i A'):=by
 obtain⟨F,h1,ah,k⟩:=h.sep.act h.t_ ar;refine⟨F,h1,ah,λan F' A' hm EZ rP=>⟨h.mod.then hm λb ab bj=>(ah b ab).1.1.resolve_right aa,h.wx,k an F' A' hm EZ λb ab=>⟨(rP b ab).1,(rP b ab).2.imp id λab=>⟨ab,.inr (Nat.le_trans h.mod.size ab)⟩⟩⟩⟩
theorem au.CE(h:au R bS w0 w L)(ar:L[i]?=some A)(bo:L[j]?=some B)(aN:i≠j):∃F G,A.p F w/\B.p G w/\(∀b,G b->¬ F b)/\(∀b,F b->((bS b\/w0.heap.size<=b)/\¬ R b)/\b<w.heap.size)/\(∀b,G b->b<w.heap.size)/\∀(an:World) (F':Nat->Prop) (A':dk R),Mod F w an->A'.p F' an->(∀b,F' b->b<an.heap.size/\(F b\/w.heap.size<=b))->au R bS w0 an (L.set i A'):=by
 obtain⟨fe,h1,ah,aB⟩:=h.sep;let kj:Nat->Prop:=λb=>bS b\/w0.heap.size<=b
 refine⟨fe i,fe j,h1 i A ar,h1 j B bo,λb ab ag=>aB i j b aN ag ab,ah i,λb ab=>(ah j b ab).2,λan F' A' hm EZ rP=>⟨h.mod.then hm λb ab bj=>(ah i b ab).1.1.resolve_right aa,h.wx,⟨λk=>if k=i then F' else fe k,λk B fX=>?_,λk b ab=>?_,λj k b n_ bo hk=>?_⟩⟩⟩
 . by_cases hk:k=i
   . subst hk;rw[List.getElem?_set_self (List.getElem?_eq_some_iff.1 ar).1] at fX;simp only[if_true];cases fX;exact EZ
   . rw[List.getElem?_set_ne (λe=>hk e.symm)] at fX;simp only[if_neg hk];exact B.keep (h1 k B fX) hm (λb ab ag=>aB k i b hk ab ag) λb ab ag=>(ah i b ag).1.2 ab
 . by_cases hk:k=i
   . subst hk;simp only[if_true] at ab;obtain⟨bE,c6⟩:=rP b ab;exact⟨c6.elim (λh=>(ah k b h).1) (λab=>⟨.inr (Nat.le_trans h.mod.size ab),λa'=>by have:=h.t_ b a';omega⟩),bE⟩
   . simp only[if_neg hk] at ab;exact⟨(ah k b ab).1,Nat.lt_of_lt_of_le (ah k b ab).2 hm.size⟩
 . by_cases iZ:j=i
   . have n9:k≠i:=λe=>n_ (iZ.trans e.symm)
     simp only[if_pos iZ] at bo;simp only[if_neg n9] at hk;rcases(rP b bo).2 with c6|c6
     . exact aB i k b (λe=>n9 e.symm) c6 hk
     . have:=(ah k b hk).2;omega
   . simp only[if_neg iZ] at bo;by_cases n9:k=i
     . simp only[if_pos n9] at hk;rcases(rP b hk).2 with c6|c6
       . exact aB j i b iZ bo c6
       . have:=(ah j b bo).2;omega
     . simp only[if_neg n9] at hk;exact aB j k b n_ bo hk
theorem au.new{F:Nat->Prop}(h:au R bS w0 w L)(hm:Ext w an)(bf:A.p F an)(bs:∀b,F b->w.heap.size<=b/\b<an.heap.size):au R bS w0 an (L++[A]):=
 ⟨h.mod.ext hm,h.wx,h.sep.new h.t_ hm bf λb ab=>⟨.inr (Nat.le_trans h.mod.size (bs b ab).1),bs b ab⟩⟩
theorem au.yY(is:List Nat)(h:au R bS w0 w L)(bj:(is.all λi=>decide (i<L.length))=true)(aN:is.Nodup):au R bS w0 w (is.filterMap λi=>L[i]?):=⟨h.mod,h.wx,h.sep.yY is bj aN⟩
theorem au.imp{A':dk R}(h:au R bS w0 w L)(ar:L[i]?=some A)(bf:∀F,A.p F w->A'.p F w):au R bS w0 w (L.set i A'):=⟨h.mod,h.wx,h.sep.imp h.t_ ar bf⟩
theorem au.close{L1 L2:List (dk R)}(h:au R bS w0 w (L1++L2)):au R bS w0 w (L1++[bk L2]):=⟨h.mod,h.wx,h.sep.close⟩
theorem au.open{L1 L2:List (dk R)}(h:au R bS w0 w (L1++[bk L2])):au R bS w0 w (L1++L2):=⟨h.mod,h.wx,h.sep.open⟩
theorem au.fin(h:au R bS w0 w [A]):Mod bS w0 w/\∃F',A.p F' w/\∀b,F' b->b<w.heap.size/\(bS b\/w0.heap.size<=b):=by
 obtain⟨fe,h1,ah,_⟩:=h.sep;exact⟨h.mod,fe 0,h1 0 A rfl,λb ab=>⟨(ah 0 b ab).2,(ah 0 b ab).1.1⟩⟩
theorem au.Mw{α:Type}{A:α->dk R}(h:au R bS w0 w L)(ar:L[i]?=some (nK A)):∃a,au R bS w0 w (L.set i (A a)):=by
 obtain⟨F,⟨a,aw⟩,ah,k⟩:=h.act ar;exact⟨a,k w F (A a) (Mod.refl _ _) aw λb ab=>⟨(ah b ab).2,.inl ab⟩⟩
theorem au.fy{α:Type}{A:α->dk R}(h:au R bS w0 w L)(a:α)(ar:L[i]?=some (A a)):au R bS w0 w (L.set i (nK A)):=h.imp ar λF x=>⟨a,x⟩
theorem au.ad0{b:Nat}{cs:List Value}{e:TypeId}(h:au R bS w0 w L)(ar:L[i]?=some (ax b cs e)):dv w b cs e:=by
 obtain⟨F,h1,_⟩:=h.get ar;exact h1.1
theorem au.oJ{b:Nat}{cs cs':List Value}{e:TypeId}(h:au R bS w0 w L)(ar:L[i]?=some (ax b cs e))(hm:Mod (b_ (b+1)) w an)(hk:dv an b cs' e):au R bS w0 an (L.set i (ax b cs' e)):=by
 obtain⟨F,h1,ah,k⟩:=h.act ar;exact k an F _ (Mv hm h1.2) ⟨hk,h1.2⟩ λb ab=>⟨Nat.lt_of_lt_of_le (ah b ab).2 hm.size,.inl ab⟩
theorem au.cR{b:Nat}{cs:List Value}{e:TypeId}(h:au R bS w0 w L)(hm:Ext w an)(ab:b=w.heap.size)(hk:dv an b cs e):au R bS w0 an (L++[ax b cs e]):=
 h.new (F:=λx=>x=b) hm ⟨hk,rfl⟩ λx ag=>by have:=hk.lt;omega
theorem au.map{α β:Type}[DecidableEq α]{key:α->Value}{val:β->Value}{b:Nat}{m:List (α×β)}(h:au R bS w0 w L)(ar:L[i]?=some (lx key val b m)):ng key val w b m:=by
 obtain⟨F,h1,_⟩:=h.get ar;exact h1.1
theorem au.l5{α β:Type}[DecidableEq α]{key:α->Value}{val:β->Value}{b:Nat}{m sY:List (α×β)}(h:au R bS w0 w L)(ar:L[i]?=some (lx key val b m))(hm:Mod (b_ (b+1)) w an)(hk:ng key val an b sY):au R bS w0 an (L.set i (lx key val b sY)):=by
 obtain⟨F,h1,ah,k⟩:=h.act ar;exact k an F _ (Mv hm h1.2) ⟨hk,h1.2⟩ λb ab=>⟨Nat.lt_of_lt_of_le (ah b ab).2 hm.size,.inl ab⟩
theorem au.T2{α β:Type}[DecidableEq α]{key:α->Value}{val:β->Value}{b:Nat}{m:List (α×β)}(h:au R bS w0 w L)(hm:Ext w an)(ab:b=w.heap.size)(hk:ng key val an b m):au R bS w0 an (L++[lx key val b m]):=
 h.new (F:=λx=>x=b) hm ⟨hk,rfl⟩ λx ag=>by have:=hk.lt;omega
section
variable {α:Type} {enc:α->List Value} {e:TypeId} {sz:Nat} {v:Value} {l:List α}
theorem Acc.uniq{g fv:Nat}{an:World}(h:Acc enc e sz w g v l){nD:TypeId}{ad1:Nat}{jV:List α}(gN:Acc enc nD ad1 an fv v jV):g=fv:=by
 rcases h with ⟨h1,_,ah⟩|⟨b,cap,cur,bK,h1,_⟩<;>rcases gN with ⟨bC,_,cy⟩|⟨sl,asG,asH,td,bC,_⟩
 . omega
 . rw[h1] at bC;simp at bC
 . rw[h1] at bC;simp at bC
 . rw[h1] at bC;simp only[Value.slice.injEq,Option.some.injEq,Addr.mk.injEq] at bC;omega
theorem au.ad2(h:au R bS w0 w L)(ar:L[i]?=some (aS enc e sz v l)):∃g,Acc enc e sz w g v l/\g<=w.heap.size/\∀(an:World) (fv:Nat) (gQ:Value) (jV:List α),Mod (b_ g) w an->Acc enc e sz an fv gQ jV->(fv=g\/w.heap.size<fv)->au R bS w0 an (L.set i (aS enc e sz gQ jV)):=by
 obtain⟨F,⟨g,h1,aB⟩,ah,k⟩:=h.act ar;refine⟨g,h1,h1.lt,λan fv gQ jV hm aw aU=>k an (λb=>b+1=fv) _ (hm.weaken λb ab _=>aB b ab) ⟨fv,aw,λb ab=>ab⟩ λb ab=>⟨?_,?_⟩⟩
 . have:=aw.lt;omega
 . rcases aU with aU|aU
   . exact .inl (aB b aa)
   . exact .inr aa
theorem au.fz{g:Nat}(h:au R bS w0 w L)(hm:Ext w an)(aw:Acc enc e sz an g v l)(aU:g=0\/w.heap.size<g):au R bS w0 an (L++[aS enc e sz v l]):=
 h.new (F:=λb=>b+1=g) hm ⟨g,aw,λb ab=>ab⟩ λb ab=>by have:=aw.lt;omega
theorem au.ne{b g:Nat}{cs:List Value}{nD:TypeId}(h:au R bS w0 w L)(ar:L[i]?=some (aS enc e sz v l))(bo:L[j]?=some (ax b cs nD))(mY:i≠j)(aw:Acc enc e sz w g v l):b+1≠g:=by
 obtain⟨F,G,⟨fv,h1,ah⟩,aB,bE⟩:=h.sep.two ar bo mY;have:=aw.uniq h1;subst this;intro e;exact bE b aB.2 (ah b e)
theorem au.ch{vs:List (Value×List α)}{k:Nat}(h:au R bS w0 w L)(ar:L[i]?=some (fa enc vs))(hk:vs[k]?=some (v,l)):aq enc w (dq 0 w.heap.size) v l:=by
 obtain⟨F,h1,ah⟩:=h.get ar;exact(h1 _ (List.mem_of_getElem? hk)).mono λb ab=>⟨Nat.zero_le _,ab.elim (ah b) (h.t_ b)⟩
theorem au.T3{vs:List (Value×List α)}{k:Nat}(h:au R bS w0 w L)(ar:L[i]?=some (fa enc vs))(hk:vs[k]?=some (v,l)):∃F:Nat->Prop,aq enc w F v l/\∀gQ jV,aq enc w F gQ jV->au R bS w0 w (L.set i (fa enc (vs++[(gQ,jV)]))):=by
 obtain⟨F,h1,ah,ju⟩:=h.act ar;refine⟨λb=>F b\/R b,h1 _ (List.mem_of_getElem? hk),λgQ jV aT=>ju w F _ (Mod.refl _ _) (λx ag=>?_) λb ab=>⟨(ah b ab).2,.inl ab⟩⟩;rcases List.mem_append.1 ag with ag|ag
 . exact h1 x ag
 . simp only[List.mem_singleton] at ag;subst ag;exact aT
theorem au.E1(h:au R bS w0 w L)(hm:Ext w an)(aT:aq enc an (dq w.heap.size an.heap.size) v l):au R bS w0 an (L++[fa enc [(v,l)]]):=
 h.new (F:=dq w.heap.size an.heap.size) hm (λx ag=>by simp only[List.mem_singleton] at ag;subst ag;exact aT.mono λb ab=>.inl ab) λb ab=>ab
theorem au.hF{b:Nat}(h:au R bS w0 w L)(hm:Ext w an)(ab:b=w.heap.size)(cO:an.heap.size=w.heap.size+1)(aT:aq enc an (dq b (b+1)) v l):au R bS w0 an (L++[fa enc [(v,l)]]):=
 h.E1 hm (aT.mono λx ag=>by unfold dq at *;omega)
theorem aq.jG{F:Nat->Prop}(h:aq enc w F v l){P:Program}{t:TypeId}{by_:Nat}{g:Bool}{z:List Value}(a8:P.underlying t=some (.slice e))(he:ey P e=some (g,sz,by_,z))(dI:∀x,(enc x).length=sz){k:IntKind}{n:Int}(i:Nat)(aN:n=(i:Int))(ar:i<l.length):
 ∃x b off,l[i]?=some x/\(∀w,(Instr.indexAt t v (.int k n)).run P w=.ok (ptr b off) w)/\F b/\Row w b off (enc x):=by
 obtain⟨b,off,h1,ah,aB⟩:=h.at a8 he dI (k:=k) i aN ar;exact⟨l[i],b,off,by simp,h1,ah,aB⟩
theorem aq.rowAt{F:Nat->Prop}(h:aq enc w F v l){P:Program}{t:TypeId}{by_:Nat}{g:Bool}{z:List Value}(a8:P.underlying t=some (.slice e))(he:ey P e=some (g,sz,by_,z))(dI:∀x,(enc x).length=sz){k:IntKind}{n:Int}(i:Nat)(aN:n=(i:Int)){x:α}{b off:Nat}(ag:l[i]?=some x)
 (a':∀w,(Instr.indexAt t v (.int k n)).run P w=.ok (ptr b off) w):Row w b off (enc x):=by
 obtain⟨ad3,sl,SB,te,LU,_,rQ⟩:=h.jG a8 he dI (k:=k) i aN (List.getElem?_eq_some_iff.1 ag).1;have fS:=(a' w).symm.trans (LU w);simp only[ptr,Result.ok.injEq,Value.pointer.injEq,Option.some.injEq,Addr.mk.injEq,and_true] at fS;obtain⟨rfl,rfl⟩:=fS;rw[ag] at te;cases te;exact rQ
theorem au.freeze(h:au R bS w0 w L)(ar:L[i]?=some (aS enc e sz v l)):au R bS w0 w (L.set i (fa enc [(v,l)])):=
 h.imp ar λF ag x te=>by
  obtain⟨g,h1,ah⟩:=ag
  simp only[List.mem_singleton] at te
  subst te
  refine h1.ch.mono λb ab=>?_
  rcases h1 with ⟨_,_,bE⟩|⟨sl,cap,cur,bK,_⟩
  . unfold dq at ab;omega
  . exact .inl (ah b (by unfold dq at ab;omega))
theorem au.ad4{G:Nat->Prop}(h:au R bS w0 w L)(aT:aq enc w0 G v l)(cb:∀b,G b->R b):au R bS w0 w (L++[fa enc [(v,l)]]):=
 h.new (F:=λ_=>False) (Mod.refl _ _) (λx ag=>by
  simp only[List.mem_singleton] at ag
  subst ag
  exact(aT.keep h.mod λb ab=>(h.wx b (cb b ab)).2).mono λb ab=>.inr (cb b ab)) λ_ ab=>ab.elim
end
end
section
variable {w0 w:World} {R:Nat->Prop} {T4:List (dk (λ_=>False))} {L:List (dk R)} {i:Nat} {α:Type} {enc:α->List Value} {e:TypeId} {sz:Nat} {v:Value} {l:List α}
theorem au.H4{vs:List (Value×List α)}{k:Nat}(h:au (λ_=>False) (λ_=>False) w0 w T4)(ar:T4[i]?=some (fa enc vs))(hk:vs[k]?=some (v,l)):aq enc w (dq w0.heap.size w.heap.size) v l:=by
 obtain⟨F,h1,ah,_⟩:=h.act ar;exact(h1 _ (List.mem_of_getElem? hk)).mono λb ab=>⟨(ah b (ab.resolve_right id)).1.1.resolve_left λx=>x,(ah b (ab.resolve_right id)).2⟩
theorem au.tf(h:au R (λ_=>False) w0 w L)(ar:L[i]?=some (aS enc e sz v l)):∃g,Acc enc e sz w g v l/\(g=0\/w0.heap.size<g):=by
 obtain⟨F,⟨g,h1,aB⟩,ah,_⟩:=h.act ar;refine⟨g,h1,?_⟩;rcases(by omega:g=0\/0<g) with aU|aU
 . exact .inl aU
 . have:=(ah (g-1) (aB _ aa)).1.1.resolve_left λx=>x
   exact .inr aa
theorem au.ad5(h:au R (λ_=>False) w0 w L)(ar:L[i]?=some (aS enc e sz v l)):aq enc w (dq w0.heap.size w.heap.size) v l:=by
 obtain⟨g,h1,ah⟩:=h.tf ar;exact h1.fresh ah
end
theorem au.out{R bS G:Nat->Prop}{w0 w:World}{L:List (dk R)}{α:Type}{enc:α->List Value}{v:Value}{l:List α}(h:au R bS w0 w L)(aT:aq enc w0 G v l)(cb:∀b,G b->¬ bS b):aq enc w G v l:=aT.keep h.mod cb
end Go.aH
namespace Go.aH
open Go
def qw{R:Nat->Prop}{α:Type}(rO e:TypeId)(sz:Nat)(enc:α->List Value)(e7:Nat)(l:List α):dk R:=nK λv:Value=>bk [ax e7 [v] rO,aS enc e sz v l]
end Go.aH
set_option linter.unusedSectionVars false
namespace Go.aH
open Go
section
variable {P:Program} {E:Env} {C:World->Prop} {d:Option Tmp} {ty:TypeId} {pos:String} {af:Array Edge} {gd:Option (Nat×Bool)} {w:World} {K:Value->World->Prop}
theorem bx.CF{x y:Operand}{xt yt:TypeId}{p q:Int}(r:Int)(ag:aO E x=some (.int .i32 p))(aD:aO E y=some (.int .i32 q))(a':0<=p/\p<=2147483647/\1<=q/\p / q=r):bx P ⟨d,.binOp .quo xt x y yt,ty,pos,af,gd⟩ E C (.int .i32 r):=by
 have h:=bx.quo (P:=P) (C:=C) (d:=d) (xt:=xt) (yt:=yt) (ty:=ty) (pos:=pos) (af:=af) (gd:=gd) ag aD aa
 have e:IntKind.i32.wrap (p.tdiv q)=r:=by
  rw[Int.tdiv_eq_ediv_of_nonneg a'.1,a'.2.2.2]
  have bK:=Int.ediv_nonneg a'.1 (by omega:0<=q)
  have h1:=Int.ediv_le_self q a'.1
  exact IntWalk.i32_in _ aa
 rw[e] at h;exact h
theorem ad6{b off:Nat}{l:aj}(a':Row w b off (l.flatMap eA))(j:Nat)(bo:j<l.length):w.cell? ((⟨b,off,none⟩:Addr).add j)=some (.int .u8 (l[j].toNat:Int)):=by
 have bB:l.flatMap eA=l.map λc=>Value.int .u8 (c.toNat:Int):=by
  clear a' bo
  induction l with
  | nil=>rfl
  | cons a l b'=>simp[eA,b']
 rw[add_lit];exact a'.cell j _ (by rw[bB,List.getElem?_map,List.getElem?_eq_getElem bo];rfl)
theorem gB.AS{s t e:TypeId}{x:Operand}{v:Value}{F:Nat->Prop}{l:aj}(aT:P.underlying s=some (.slice e))(he:P.underlying e=some (.int .u8))(a8:P.underlying t=some .string)(ag:aO E x=some v)(h:aq eA w F v l)(eR:K (aE l) w):
 gB P ⟨d,.convert s t x,ty,pos,af,gd⟩ E w K:=λa aw=>by
 obtain⟨AT,cap,rfl,ah,aB,bE⟩:=h
 have a':(convert s t (.slice AT l.length cap)).run P w=.ok (aE l) w:=by
  rcases bE with rfl|⟨b,off,rfl,_,a'⟩
  . show(convert s t (.slice AT 0 cap)).run P w=_
    rw[run_convert_bytes_string w s t e AT 0 cap aT he a8]
    cases AT<;>simp[Conv.bytesToString,loadCells,loadCellsFrom,aE]<;>rfl
  . exact run_convert_bytes_back w s t e _ cap l aT he a8 (ad6 a')
 simp[execOp,aw.aO ag,a',out]
 exact eR
end
end Go.aH
namespace Go.aH
open Go
def gC(n:Int):UInt8:=UInt8.ofNat (n % 256).toNat
theorem u7(n:Int):((gC n).toNat:Int)=n % 256:=by
 have bK:=Int.emod_nonneg n (by omega:(256:Int)≠0);unfold gC;rw[UInt8.toNat_ofNat'];omega
theorem ad7(n:Nat):gC (n:Int)=UInt8.ofNat n:=by
 apply UInt8.toNat_inj.1;have:=u7 (n:Int);rw[UInt8.toNat_ofNat'];omega
section
variable {P:Program} {E:Env} {C:World->Prop} {d:Option Tmp} {ty:TypeId} {pos:String} {af:Array Edge} {gd:Option (Nat×Bool)} {w:World} {K:Value->World->Prop}
theorem bx.sr{s t:TypeId}{x:Operand}{k:IntKind}{p:Int}(aT:(P.underlying s).isSome=true)(a8:P.underlying t=some (.int .u8))(ag:aO E x=some (.int k p)):bx P ⟨d,.convert s t x,ty,pos,af,gd⟩ E C (.int .u8 ((gC p).toNat:Int)):=by
 have h:=bx.rG (P:=P) (C:=C) (d:=d) (ty:=ty) (pos:=pos) (af:=af) (gd:=gd) aT a8 ag;have e:IntKind.u8.wrap p=((gC p).toNat:Int):=(by rw[u7,IntKind.wrap_u8]);rw[e] at h;exact h
end
end Go.aH
namespace Go.aH
open Go
theorem xD{a b:Nat}(aw:a<4294967296)(ab:b<4294967296):a ^^^ b<4294967296:=Nat.xor_lt_two_pow (n:=32) aw ab
theorem H5{a:Nat}(aw:a<4294967296):4294967295 ^^^ a=4294967295-a:=by
 have h:(4294967295 ^^^ a)=(BitVec.ofNat 32 4294967295 ^^^ BitVec.ofNat 32 a).toNat:=by
  rw[BitVec.toNat_xor,BitVec.toNat_ofNat,BitVec.toNat_ofNat,Nat.mod_eq_of_lt (by omega:a<2 ^ 32)]
 have ah:BitVec.ofNat 32 4294967295=BitVec.allOnes 32:=rfl;rw[h,ah,BitVec.allOnes_xor,BitVec.toNat_not,BitVec.toNat_ofNat,Nat.mod_eq_of_lt (by omega:a<2 ^ 32)]
theorem ad8{a b:Nat}(ab:b<256):a*256 ||| b=a*256+b:=by
 have:=Nat.shiftLeft_add_eq_or_of_lt (i:=8) (b:=b) aa a;rw[Nat.shiftLeft_eq] at this;exact this.symm
section
variable {P:Program} {E:Env} {C:World->Prop} {d:Option Tmp} {ty:TypeId} {pos:String} {af:Array Edge} {gd:Option (Nat×Bool)} {xt yt:TypeId} {x y:Operand}
theorem bx.Mx{a b:Nat}(ag:aO E x=some (.int .u32 (a:Int)))(aD:aO E y=some (.int .u32 (b:Int)))(aw:a<4294967296)(ab:b<4294967296):bx P ⟨d,.binOp .xor xt x y yt,ty,pos,af,gd⟩ E C (.int .u32 ((a ^^^ b:Nat):Int)):=λs aT w _=>by
 have h:=u32_xor_nat a b aw ab
 simp[execOp,aT.aO ag,aT.aO aD,eqGuard,Go.binOp,intBits_xor,h]
theorem bx.T5{a b:UInt8}(ag:aO E x=some (.int .u8 (a.toNat:Int)))(aD:aO E y=some (.int .u8 (b.toNat:Int))):bx P ⟨d,.binOp .xor xt x y yt,ty,pos,af,gd⟩ E C (.int .u8 ((a ^^^ b).toNat:Int)):=λs aT w _=>by
 have h:=u8_xor_nat a.toNat b.toNat a.toNat_lt b.toNat_lt
 rw[<-UInt8.toNat_xor] at h
 simp[execOp,aT.aO ag,aT.aO aD,eqGuard,Go.binOp,intBits_xor,h]
theorem bx.T6{p q:Int}(r:Int)(ag:aO E x=some (.int .u64 p))(aD:aO E y=some (.int .u64 q))(a':p+q=r/\0<=r/\r<=18446744073709551615):bx P ⟨d,.binOp .add xt x y yt,ty,pos,af,gd⟩ E C (.int .u64 r):=by
 have h:=bx.add (P:=P) (C:=C) (d:=d) (xt:=xt) (yt:=yt) (ty:=ty) (pos:=pos) (af:=af) (gd:=gd) ag aD;rw[IntWalk.u64_in _ aa,a'.1] at h;exact h
theorem bx.ad9{a:Nat}(ag:aO E x=some (.int .u32 (a:Int)))(aD:aO E y=some (.int .u32 1))(aw:a<4294967296):bx P ⟨d,.binOp .and xt x y yt,ty,pos,af,gd⟩ E C (.int .u32 ((a % 2:Nat):Int)):=λs aT w _=>by
 have h:=u32_and_nat a 1 aw aa
 rw[Nat.and_one_is_mod] at h
 have gN:bits .and .u32 (a:Int) 1=((a % 2:Nat):Int):=h
 simp[execOp,aT.aO ag,aT.aO aD,eqGuard,Go.binOp,intBits_and,gN]
theorem bx.T7{a b:Nat}(ag:aO E x=some (.int .u64 ((a*256:Nat):Int)))(aD:aO E y=some (.int .u64 (b:Int)))(aw:a*256<18446744073709551616)(ab:b<256):bx P ⟨d,.binOp .or xt x y yt,ty,pos,af,gd⟩ E C (.int .u64 ((a*256+b:Nat):Int)):=λs aT w _=>by
 have h:=u64_or_nat (a*256) b aw aa
 rw[ad8 ab] at h
 simp[execOp,aT.aO ag,aT.aO aD,eqGuard,Go.binOp,intBits_or]
 simpa using h
theorem bx.H5{a:Nat}(ag:aO E x=some (.int .u32 (a:Int)))(aw:a<4294967296):bx P ⟨d,.unOp .xor xt x,ty,pos,af,gd⟩ E C (.int .u32 ((4294967295-a:Nat):Int)):=λs aT w _=>by
 have h:=u32_xor_nat 4294967295 a aa aw
 rw[aH.H5 aw] at h
 have gN:bits .xor .u32 4294967295 (a:Int)=((4294967295-a:Nat):Int):=h
 simp[execOp,aT.aO ag,Op.unary,intBits_xor,IntKind.signed,IntKind.max]
 exact gN
theorem bx.My{k ju:IntKind}{p m:Int}(n:Nat)(ag:aO E x=some (.int k p))(aD:aO E y=some (.int ju m))(hm:m=(n:Int))(aN:n<=k.bits):bx P ⟨d,.binOp .shr xt x y yt,ty,pos,af,gd⟩ E C (.int k (p / 2 ^ n)):=λs aT w _=>by
 subst hm
 have h:=shift_shr k ju p (n:Int) aa aa
 simp[execOp,aT.aO ag,aT.aO aD,eqGuard,Go.binOp,h]
theorem bx.ad_{a b:Nat}(ag:aO E x=some (.int .u32 (a:Int)))(aD:aO E y=some (.int .u32 (b:Int)))(ab:b<=a)(aw:a<4294967296):bx P ⟨d,.binOp .sub xt x y yt,ty,pos,af,gd⟩ E C (.int .u32 ((a-b:Nat):Int)):=by
 have h:=bx.sub (P:=P) (C:=C) (d:=d) (xt:=xt) (yt:=yt) (ty:=ty) (pos:=pos) (af:=af) (gd:=gd) ag aD;rw[IntWalk.u32_in _ aa,show(a:Int)-(b:Int)=((a-b:Nat):Int) from by omega] at h;exact h
theorem bx.T8{ju:IntKind}{a:Nat}(ag:aO E x=some (.int .u64 (a:Int)))(aD:aO E y=some (.int ju 8))(aw:a*256<18446744073709551616):bx P ⟨d,.binOp .shl xt x y yt,ty,pos,af,gd⟩ E C (.int .u64 ((a*256:Nat):Int)):=λs aT w _=>by
 have h:=shift_shl .u64 ju (a:Int) 8 aa b2
 have e:IntKind.u64.wrap ((a:Int)*2 ^ (8:Int).toNat)=((a*256:Nat):Int):=by
  rw[IntKind.wrap_u64]
  have:((a:Int)*2 ^ (8:Int).toNat)=((a*256:Nat):Int):=by simp
  rw[this];omega
 rw[e] at h
 simp[execOp,aT.aO ag,aT.aO aD,eqGuard,Go.binOp,h]
theorem bx.ad'{a:Nat}(b:Nat)(ag:aO E x=some (.int .u32 (a:Int)))(aD:aO E y=some (.int .u32 (b:Int)))(ab:b≠0)(aw:a<4294967296):bx P ⟨d,.binOp .quo xt x y yt,ty,pos,af,gd⟩ E C (.int .u32 ((a / b:Nat):Int)):=by
 have h:=bx.quo (P:=P) (C:=C) (d:=d) (xt:=xt) (yt:=yt) (ty:=ty) (pos:=pos) (af:=af) (gd:=gd) ag aD aa
 have e:IntKind.u32.wrap ((a:Int).tdiv (b:Int))=((a / b:Nat):Int):=by
  rw[Int.tdiv_eq_ediv_of_nonneg aa,<-Int.natCast_ediv]
  have:=Nat.div_le_self a b
  generalize a / b=q at *
  exact IntWalk.u32_in _ aa
 rw[e] at h;exact h
end
end Go.aH
namespace Go.aH
open Go
section
variable {P:Program} {E:Env} {d:Option Tmp} {ty:TypeId} {pos:String} {af:Array Edge} {gd:Option (Nat×Bool)} {w:World} {K:Value->World->Prop}
theorem gB.aea{s e nD:TypeId}{x:Operand}{b n c:Nat}{cs:List Value}(aT:P.underlying s=some (.slice e))(he:P.underlying e=some (.int .u8))(ag:aO E x=some (.slice (some ⟨b,0,none⟩) n c))(ab:dv w b cs nD)
 (eR:∀an,Mod (b_ (b+1)) w an->an.heap.size=w.heap.size->Row an b 0 cs->K (.slice (some ⟨b,0,none⟩) n c) an):gB P ⟨d,.convert s s x,ty,pos,af,gd⟩ E w K:=λa aw=>by
 have yZ:w.shape? b=some (nD,cs.length):=by
  unfold World.shape?
  rw[show w.heap[b]?=some (.cells cs.toArray nD (0,0)) from ab]
  simp
 have a':(convert s s (.slice (some ⟨b,0,none⟩) n c)).run P w=.ok (.slice (some ⟨b,0,none⟩) n c) (w.freeze ⟨b,cs.length,none⟩ 1):=by
  simp[convert,run_underlying aT,run_underlying he,markStringish,yZ]
 have hD:(w.freeze ⟨b,cs.length,none⟩ 1).heap[b]?=some (.cells cs.toArray nD (cs.length,cs.length+1)):=by
  unfold World.freeze
  rw[if_neg b2]
  simp only[Array.getElem?_modify,if_true]
  rw[show w.heap[b]?=some (.cells cs.toArray nD (0,0)) from ab]
  rfl
 simp[execOp,aw.aO ag,a',out]
 refine eR _ ⟨rfl,rfl,rfl,?_,?_⟩ ?_ ?_
 . unfold World.freeze
   rw[if_neg b2]
   simp
 . intro sl o eh aN
   unfold World.freeze
   rw[if_neg b2]
   simp only[Array.getElem?_modify]
   rw[if_neg (λe=>aN (by unfold b_;omega))]
   exact eh
 . unfold World.freeze
   rw[if_neg b2]
   simp
 . intro i v cI
   unfold World.cell?
   simp only[Option.isSome_none,Bool.false_eq_true,if_false]
   rw[hD]
   simpa using cI
end
theorem aq.aeb{α:Type}{enc:α->List Value}{w:World}{b:Nat}{l:List α}(h:Row w b 0 (l.flatMap enc))(n:Nat)(aN:n=l.length)(hm:n<=maxLen):aq enc w (dq b (b+1)) (.slice (some ⟨b,0,none⟩) n n) l:=
 ⟨some ⟨b,0,none⟩,n,by rw[aN],by omega,hm,.inr ⟨b,0,rfl,⟨Nat.le_refl _,by omega⟩,h⟩⟩
end Go.aH
namespace Go.ak
open Go.aH
theorem Mz(s:aj)(l:List aj):jg (s::l)=s.length+jg l:=by simp[jg]
theorem T9(a b:List aj):jg (a++b)=jg a+jg b:=by simp[jg]
theorem aec(p:aj)(l:List aj):jg (l.map (p++·))=l.length*p.length+jg l:=by
 induction l with
 | nil=>simp[jg]
 | cons s l b'=>simp only[List.map_cons,Mz,b',List.length_append,List.length_cons,Nat.add_mul,Nat.one_mul];omega
theorem T_{p:aj}(hp:1<=p.length)(l:List aj):jg (eY p l)+(eY p l).length+jg (l4 p l)<=jg l:=by
 have h:=congrArg jg (EP p l);rw[T9,aec] at h;have:=Nat.mul_le_mul_left (eY p l).length hp;omega
theorem T'(p:aj)(l:List aj):(eY p l).length+(l4 p l).length=l.length:=by
 have h:=congrArg List.length (EP p l);rw[List.length_append,List.length_map] at h;exact h
theorem H6(l:List aj):jg (fE l)=jg l:=by
 cases l with
 | nil=>rfl
 | cons a r=>cases a<;>simp[fE,jg]
theorem H7(l:List aj):(fE l).length<=l.length:=by
 cases l with
 | nil=>simp[fE]
 | cons a r=>cases a<;>simp[fE]
def CG(gs:List (Nat×List aj)):Nat:=(gs.map λg=>jg g.2+1).sum
theorem Ua:∀(n:Nat) (l:List aj),l.length<=n->gu l->(∀s∈l,s≠[])->CG (gZ l)<=jg l
 | _,[],_,_,_=>by simp[AG,CG]
 | 0,s::r,h,_,_=>by simp at h
 | n+1,s::r,aN,h,dG=>by
  have bj:=AF s r
  simp only[List.length_cons] at aN
  have aT:=dG s dg
  have bB:=h.o9 s dg
  have hp:dA s=ei (ga s):=(yS aT ((yT aT).1 bB).1).2.symm
  have b':=Ua n (l4 (dA s) (s::r)) aa (h.more _) (λt a8=>dG t ((List.dropWhile_suffix _).subset a8))
  have h1:=T_ (p:=dA s) (by rw[hp];exact Tm _) (s::r)
  have ah:1<=(eY (dA s) (s::r)).length:=by
   unfold eY
   rw[List.takeWhile_cons,if_pos (AE s)];simp
  rw[Cu]
  unfold CG at b' ⊢
  simp only[List.map_cons,List.sum_cons]
  omega
theorem Ub{add:c5->List aj->c5×Nat}:∀(gs:List (Nat×List aj)) (s:c5),(∀g∈gs,∀s,(add s g.2).1.length<=s.length+1+jg g.2)->(lL add s gs).1.length<=s.length+CG gs
 | [],s,_=>by simp[lL,CG]
 | g::gs,s,h=>by
  have h1:=h g dg s
  have ah:=Ub gs (add s g.2).1 (λfv s_=>h fv (by simp[s_]))
  show(lL add (add s g.2).1 gs).1.length<=_
  unfold CG at ah ⊢
  simp only[List.map_cons,List.sum_cons]
  omega
theorem y0:∀(f:Nat) (s:c5) (aI:List aj),gu aI->(e1 f s aI).1.length<=s.length+1+jg aI
 | 0,s,aI,_=>by simp[e1];omega
 | f+1,s,aI,aU=>by
  unfold e1
  cases ar:s.findIdx? λx=>x.1==aI with
  | some i=>simp;omega
  | none =>
   simp only[List.length_set]
   have hd:=u3 aU
   have ok:=xz _ _ (Nat.le_refl _) hd.1 hd.2
   have h1:=Ub (add:=e1 f) (gZ (fE aI)) (s++[(aI,[])]) (λg iQ jT=>y0 f jT g.2 (ok.fO g iQ).2.2)
   have ah:=Ua _ _ (Nat.le_refl _) hd.1 hd.2
   rw[H6] at ah
   simp only[List.length_append,List.length_cons,List.length_nil] at h1
   omega
theorem H8{f:Nat}{s:c5}{aI:List aj}(hd:Deep f aI)(aU:gu aI)(dG:aI≠[])(aN:(names s).Nodup)(bX:wk s):wk (e1 (f+1) s aI).1/\(names (e1 (f+1) s aI).1).Nodup:=by
 have h:=AJ f s aI hd aU dG aN;obtain⟨t,e,k⟩:=h.tail;refine⟨λx ag=>?_,h.apart⟩;rw[e] at ag;rcases List.mem_append.1 ag with ag|ag
 . exact bX x ag
 . exact⟨(k x ag).ne,(k x ag).fO.EV⟩
theorem CH{f:Nat}{s:c5}{aI:List aj}(hd:Deep f aI)(aU:gu aI)(dG:aI≠[])(aN:(names s).Nodup):(e1 (f+1) s aI).2<(e1 (f+1) s aI).1.length:=by
 obtain⟨es,h⟩:=(AJ f s aI hd aU dG aN).here;exact(List.getElem?_eq_some_iff.1 h).1
def mH(f:Nat)(q5:c5)(tg:List (Nat×List aj))(q6:c5)(et:List ca)(dX:List aj):Prop:=
 lL (e1 f) q5 tg=((lL (e1 f) q6 (gZ dX)).1,et++(lL (e1 f) q6 (gZ dX)).2)
theorem mH.start(f:Nat)(q5:c5)(r:List aj):mH f q5 (gZ r) q5 [] r:=by unfold mH;simp
theorem mH.next{f:Nat}{q5:c5}{tg:List (Nat×List aj)}{q6:c5}{et:List ca}{s:aj}{r:List aj}(h:mH f q5 tg q6 et (s::r)):
 mH f q5 tg (e1 f q6 (eY (dA s) (s::r))).1 (et++[⟨(ga s:Int),((e1 f q6 (eY (dA s) (s::r))).2:Int)⟩]) (l4 (dA s) (s::r)):=by
 unfold mH at h ⊢;rw[h,Cu];simp only[lL,List.append_assoc,List.cons_append,List.nil_append]
theorem mH.fin{f:Nat}{q5:c5}{tg:List (Nat×List aj)}{q6:c5}{et:List ca}(h:mH f q5 tg q6 et []):lL (e1 f) q5 tg=(q6,et):=by
 unfold mH at h;rw[h,AG];simp[lL]
theorem H9{f:Nat}{s:c5}{aI:List aj}{i:Nat}(h:(s.findIdx? λx=>x.1==aI)=some i):e1 (f+1) s aI=(s,i):=by
 unfold e1;rw[h]
theorem MA{f:Nat}{s xs:c5}{aI:List aj}{et:List ca}(h:(s.findIdx? λx=>x.1==aI)=none)(he:lL (e1 f) (s++[(aI,[])]) (gZ (fE aI))=(s++(aI,[])::xs,et)):e1 (f+1) s aI=(s++(aI,et)::xs,s.length):=by
 unfold e1;rw[h];simp only[he];rw[List.set_append_right _ _ (Nat.le_refl _)];simp
theorem mH.cast{f:Nat}{q5 q6 Uc:c5}{tg:List (Nat×List aj)}{et:List ca}{r Ud:List aj}(h:mH f q5 tg q6 et r)(fS:q6=Uc)(jd:r=Ud):mH f q5 tg Uc et Ud:=by subst fS jd;exact h
theorem mH.CI{f:Nat}{q5:c5}{tg:List (Nat×List aj)}{q6:c5}{et:List ca}{x:aj}{dX:List aj}(ag:dX[0]?=some x)(h:mH f q5 tg q6 et dX):
 mH f q5 tg (e1 f q6 (eY (dA x) dX)).1 (et++[⟨(ga x:Int),((e1 f q6 (eY (dA x) dX)).2:Int)⟩]) (l4 (dA x) dX):=by
 rw[head_cons ag] at h ⊢;exact h.next
theorem Ue{s:c5}{aI:List aj}(bB:(s.findIdx? λx=>x.1==aI)=none)(gI:(names s).Nodup)(bX:wk s)(dG:aI≠[])(a':∀t∈aI,rN t):wk (s++(aI,[])::[])/\(names (s++(aI,[])::[])).Nodup:=by
 have fW:=L' bB;refine⟨λx ag=>?_,?_⟩
 . rcases List.mem_append.1 ag with ag|ag
   . exact bX x ag
   . simp only[List.mem_singleton] at ag;subst ag;exact⟨dG,a'⟩
 . unfold names;rw[List.map_append,List.nodup_append];refine⟨gI,by simp,λa aw b ab=>?_⟩;simp only[List.map_cons,List.map_nil,List.mem_singleton] at ab;subst ab;exact λe=>fW (by rw[<-e];exact aw)
theorem CJ{dX:List aj}{x:aj}{f:Nat}(ag:dX[0]?=some x)(a':gu dX/\(∀t∈dX,t≠[])/\Deep (f+1) dX):
 gu (eY (dA x) dX)/\eY (dA x) dX≠[]/\Deep f (eY (dA x) dX)/\jg (eY (dA x) dX)+(eY (dA x) dX).length+jg (l4 (dA x) dX)<=jg dX/\(eY (dA x) dX).length+(l4 (dA x) dX).length=dX.length/\1<=(eY (dA x) dX).length:=by
 obtain⟨aU,aN,hd⟩:=a';have rR:=List.mem_of_getElem? ag;have kC:=aN x rR;have hp:dA x=ei (ga x):=(yS kC ((yT kC).1 (aU.o9 x rR)).1).2.symm;have AU:=((aU.o9 x rR).split kC).1
 have h1:1<=(eY (dA x) dX).length:=by
  rw[head_cons ag]
  unfold eY
  rw[List.takeWhile_cons,if_pos (AE x)];simp
 refine⟨?_,?_,λt a8=>?_,T_ (by rw[hp];exact Tm _) _,T' _ _,h1⟩
 . rw[head_cons ag] at aU ⊢;exact Tw aU kC
 . intro e;rw[e] at h1;simp at h1
 . have hm:=hd _ (Tv a8);rw[hp] at hm;have ah:=wg (c:=ga x) AU t;unfold ga at hm ah;rw[ah] at hm;simp only[List.length_cons] at hm;omega
theorem MB{f:Nat}{dX:List aj}{x:aj}(hd:Deep f dX)(ag:x∈dX)(aN:x≠[]):∃f2,f=f2+1:=by
 have:=hd x ag;rw[xv aN] at this;simp only[List.length_cons] at this;exact⟨f-1,by omega⟩
theorem H_{l:List aj}{x:aj}(h:x∈l):x.length<=jg l:=by
 induction l with
 | nil=>simp at h
 | cons a l b' =>
  rw[Mz];rcases List.mem_cons.1 h with rfl|h
  . omega
  . have:=b' h;omega
theorem Uf{l:List aj}{x:aj}(ag:l[0]?=some x)(h:x=[]):fE l=l.drop 1/\jY l=true:=by
 rw[head_cons ag,h];simp[fE,jY]
theorem Ug{l:List aj}{x:aj}(ag:l[0]?=some x)(h:x≠[]):fE l=l/\jY l=false:=by
 have bj:=head_cons ag
 cases x with
 | nil=>exact absurd rfl h
 | cons a x =>
  constructor
  . rw[bj];rfl
  . rw[bj];simp[jY]
theorem Uh(s xs:c5)(r:List aj)(es rM:List ca):l5 (s++(r,es)::xs)=l5 (s++(r,rM)::xs):=adS (by simp[names])
structure q7(p:aj)(l:List aj)(k:Nat)(b:List aj):Prop where
 is:b=(l.take k).map λt=>t.drop p.length
 all:∀t∈l.take k,p.isPrefixOf t=true
theorem q7.start(p:aj)(l:List aj):q7 p l 0 []:=⟨by simp,by simp⟩
theorem q7.next{p:aj}{l:List aj}{k:Nat}{b:List aj}{t:aj}(h:q7 p l k b)(a8:l[k]?=some t)(hp:p.isPrefixOf t=true):q7 p l (k+1) (b++[t.drop p.length]):=by
 refine⟨by rw[h.is,List.take_add_one,a8];simp,λu hu=>?_⟩;rw[List.take_add_one,a8] at hu;simp only[Option.toList_some,List.mem_append,List.mem_singleton] at hu;rcases hu with hu|rfl
 . exact h.all u hu
 . exact hp
theorem q7.MC{p:aj}{l:List aj}{k m:Nat}{b:List aj}{t:aj}(h:q7 p l k b)(hm:p.length=m)(a8:l[k]?=some t)(hp:p.isPrefixOf t=true):q7 p l (k+1) (b++[t.drop m]):=by rw[<-hm];exact h.next a8 hp
theorem aed{α:Type}{p:α->Bool}{l:List α}{k:Nat}(h1:∀t∈l.take k,p t=true)(ah:∀t,l[k]?=some t->p t=false):l.takeWhile p=l.take k/\l.dropWhile p=l.drop k:=by
 have e:l=l.take k++l.drop k:=(List.take_append_drop k l).symm
 have aB:(l.drop k).takeWhile p=[]/\(l.drop k).dropWhile p=l.drop k:=by
  cases hd:l.drop k with
  | nil=>simp
  | cons t r =>
   have:l[k]?=some t:=by rw[<-List.head?_drop,hd];rfl
   have:=ah t this
   simp[List.takeWhile_cons,List.dropWhile_cons,this]
 constructor
 . conv=>lhs;rw[e]
   rw[List.takeWhile_append_of_pos h1,aB.1,List.append_nil]
 . conv=>lhs;rw[e]
   rw[List.dropWhile_append_of_pos h1,aB.2]
theorem q7.fin{p:aj}{l:List aj}{k:Nat}{b:List aj}(h:q7 p l k b)(he:l.length<=k\/∃t,l[k]?=some t/\p.isPrefixOf t=false):b=eY p l/\l.drop k=l4 p l:=by
 have:=aed h.all (λt a8=>by
  rcases he with he|⟨u,hu,hp⟩
  . rw[List.getElem?_eq_none he] at a8;cases a8
  . rw[hu] at a8;cases a8;exact hp)
 unfold eY l4;rw[this.1,this.2];exact⟨h.is,rfl⟩
theorem MD{p t:aj}{n:Nat}(h:p.isPrefixOf t=true)(aN:p.length=n):n<=t.length:=by
 have:=congrArg List.length (Cw h);rw[List.length_append] at this;omega
theorem Ui{s:aj}(aT:s≠[]):(dA s).length=l3 s:=by
 have:=Cl s aT;unfold dA l3;rw[List.length_take];omega
end Go.ak
namespace Go.aH
open Go
def oh(w:World)(F:Nat->Prop)(t:List c7)(xs:ak.c5):Prop:=cZ (λr x=>r.fin=ak.jY x.1/\aq ak.e0 w F r.e.val x.2) t xs
def Uj(c0 ar x:Nat):Nat->Prop:=λb=>c0<=b/\b<ar/\b+1≠x
def Uk(c0 ar x y:Nat):Nat->Prop:=λb=>c0<=b/\b<ar/\b+1≠x/\b+1≠y
theorem oh.keep{M:Nat->Prop}{w an:World}{F:Nat->Prop}{t:List c7}{xs:ak.c5}(h:oh w F t xs)(hm:Mod M w an)(bs:∀b,F b->¬ M b):oh an F t xs:=cZ.imp (λr n ⟨h1,ah⟩=>⟨h1,ah.keep hm bs⟩) h
theorem oh.mono{w:World}{F F':Nat->Prop}{t:List c7}{xs:ak.c5}(h:oh w F t xs)(bs:∀b,F b->F' b):oh w F' t xs:=cZ.imp (λr n ⟨h1,ah⟩=>⟨h1,ah.mono bs⟩) h
theorem oh.len{w:World}{F:Nat->Prop}{t:List c7}{xs:ak.c5}(h:oh w F t xs):t.length=xs.length:=(cZ.get h).1
def Ul(w:World)(c0 ar x y:Nat)(t:List c7)(xs:ak.c5):Prop:=oh w (Uk c0 ar x y) t xs
theorem Ul.out{w:World}{c0 ar H' x y:Nat}{t:List c7}{xs:ak.c5}(h:Ul w c0 ar x y t xs)(hD:ar<=H'):oh w (Uj c0 H' y) t xs:=oh.mono h λb ab=>by unfold Uk at ab;unfold Uj;omega
theorem aee{w:World}{b:Nat}{m sY:List (aj×Int)}(h:ng aE fC w b m)(e:m=sY):ng aE fC w b sY:=e▸h
theorem bx.Um{P:Program}{E:Env}{C:World->Prop}{d:Option Tmp}{ty:TypeId}{pos:String}{af:Array Edge}{gd:Option (Nat×Bool)}{α β:Type}[DecidableEq α]{key:α->Value}{val:β->Value}{t e2 jk:TypeId}{x y:Operand}{b:Nat}{m:List (α×β)}{a:α}{z:Value}{u:β}(hk:KeyOk P e2 key)(a8:P.underlying t=some (.map e2 jk))(cO:∀w,(zeroValue jk).run P w=.ok z w)(ag:aO E x=some (.map (some b)))(aD:aO E y=some (key a))(hm:∀w,C w->ng key val w b m)(hu:gv m a=some u):
 bx P ⟨d,.lookup t x y true,ty,pos,af,gd⟩ E C (.tuple #[val u,.bool true]):=by
 have h:=bx.TJ (d:=d) (ty:=ty) (pos:=pos) (af:=af) (gd:=gd) (g:=true) (n:=0) (by_:=0) hk a8 cO ag aD hm;rw[hu] at h;exact h
theorem bx.Un{P:Program}{E:Env}{C:World->Prop}{d:Option Tmp}{ty:TypeId}{pos:String}{af:Array Edge}{gd:Option (Nat×Bool)}{α β:Type}[DecidableEq α]{key:α->Value}{val:β->Value}{t e2 jk:TypeId}{x y:Operand}{b:Nat}{m:List (α×β)}{a:α}{z:Value}(hk:KeyOk P e2 key)(a8:P.underlying t=some (.map e2 jk))(cO:∀w,(zeroValue jk).run P w=.ok z w)(ag:aO E x=some (.map (some b)))(aD:aO E y=some (key a))(hm:∀w,C w->ng key val w b m)(hu:gv m a=none):
 bx P ⟨d,.lookup t x y true,ty,pos,af,gd⟩ E C (.tuple #[z,.bool false]):=by
 have h:=bx.TJ (d:=d) (ty:=ty) (pos:=pos) (af:=af) (gd:=gd) (g:=true) (n:=0) (by_:=0) hk a8 cO ag aD hm;rw[hu] at h;exact h
end Go.aH
namespace Go.ak
open Go.aH
theorem Uo:∀rs:List Nat,(so rs).length<=4*rs.length
 | []=>by simp[so]
 | c::rs=>by
  have h:=Uo rs
  have bE:=xC c
  have e:so (c::rs)=ei c++so rs:=rfl
  rw[e,List.length_append,List.length_cons];omega
theorem Up{w:aj}(h:word w=true):w.length<=48:=by
 unfold word at h;rw[Bool.and_eq_true,decide_eq_true_eq,decide_eq_true_eq] at h
 have bB:im w:=by
  intro hm
  unfold iP at h;rw[if_pos hm] at h;omega
 have bj:=To bB;have he:=Uo (hc w);rw[(HT w bB).1] at he;omega
theorem aef{l:List aj}{m:Nat}(h:∀x∈l,x.length<=m):jg l<=l.length*m:=by
 induction l with
 | nil=>simp[jg]
 | cons a l b' =>
  rw[Mz,List.length_cons,Nat.add_mul];have:=h a dg;have:=b' λx ag=>h x (by simp[ag])
  omega
theorem E2{l:List aj}(h:e6 l=0):l.length<=60/\jg l<=2880:=by
 obtain⟨h1,ah,_⟩:=wh h;have:=aef (l:=l) (m:=48) λx ag=>Up (ah x ag)
 omega
def o'(words:List aj):c5:=if words=[] then[([],[])] else s9 words
def h7(words:List aj):List cw:=if e6 words=0 then fT (o' words) else[]
theorem aeg{words:List aj}(h:e6 words≠0):h7 words=[]:=by unfold h7;rw[if_neg h]
theorem t'{words:List aj}(h:e6 words=0):h7 words=fT (o' words):=by unfold h7;rw[if_pos h]
theorem Ia{words:List aj}(h:words=[]):h7 words=[(false,[])]:=by subst h;decide
theorem Uq{words:List aj}(h:e6 words=0):(s9 words).length<=2881:=by
 have h1:=y0 13 [] words (ta h).1;have ah:=(E2 h).2;unfold s9;simp only[List.length_nil] at h1;omega
theorem aeh{α β:Type}{R:α->β->Prop}{a:List α}{b:List β}(h:cZ R a b):a.length=b.length:=(cZ.get h).1
theorem ME:∀(n:Nat) (l:List aj),l.length<=n->(gZ l).length<=l.length
 | _,[],_=>by simp[AG]
 | 0,_::_,h=>by simp at h
 | n+1,s::r,h=>by
  rw[Cu]
  have hm:=AF s r
  have:=ME n (l4 (dA s) (s::r)) (by simp only[List.length_cons] at h;omega)
  simp only[List.length_cons];omega
theorem aei(p:aj)(l:List aj):(eY p l).length<=l.length:=by have:=T' p l;omega
theorem Ur:∀(n:Nat) (l:List aj),l.length<=n->∀g∈gZ l,g.2.length<=l.length
 | _,[],_,g,aU=>by simp[AG] at aU
 | 0,_::_,h,_,_=>by simp at h
 | n+1,s::r,h,g,aU=>by
  rw[Cu] at aU
  have hm:=AF s r
  rcases List.mem_cons.1 aU with rfl|aU
  . exact aei _ _
  . have:=Ur n (l4 (dA s) (s::r)) (by simp only[List.length_cons] at h;omega) g aU
    simp only[List.length_cons];omega
theorem Us{add:c5->List aj->c5×Nat}{L:Nat}:∀(gs:List (Nat×List aj)) (s:c5),(∀g∈gs,∀s,(∀y∈s,y.1.length<=L)->∀y∈(add s g.2).1,y.1.length<=L)->(∀y∈s,y.1.length<=L)->∀y∈(lL add s gs).1,y.1.length<=L
 | [],s,_,aT=>aT
 | g::gs,s,h,aT=>by
  show ∀y∈(lL add (add s g.2).1 gs).1,_
  exact Us gs _ (λfv s_=>h fv (by simp[s_])) (h g dg s aT)
theorem E3{L:Nat}:∀(f:Nat) (s:c5) (aI:List aj),(∀y∈s,y.1.length<=L)->aI.length<=L->∀y∈(e1 f s aI).1,y.1.length<=L
 | 0,s,aI,aT,_=>aT
 | f+1,s,aI,aT,a'=>by
  unfold e1
  cases ar:s.findIdx? λx=>x.1==aI with
  | some i=>exact aT
  | none =>
   have h1:=Us (add:=e1 f) (L:=L) (gZ (fE aI)) (s++[(aI,[])]) (λg iQ jT Aq=>E3 f jT g.2 Aq (by
    have:=Ur _ (fE aI) (Nat.le_refl _) g iQ
    have:=H7 aI
    omega)) (λy aD=>by
     rcases List.mem_append.1 aD with aD|aD
     . exact aT y aD
     . simp only[List.mem_singleton] at aD;subst aD;exact a')
   intro y aD
   rcases List.mem_or_eq_of_mem_set aD with aD|rfl
   . exact h1 y aD
   . exact a'
theorem CK{words:List aj}(h:e6 words=0):tZ (h7 words) (o' words) words:=by
 rw[t' h];unfold o';split
 . rename_i he;subst he;exact tZ.empty
 . rename_i he;have hw:=Cx (ta h).2 (ta h).1 he;have bj:=Uq h;refine tZ.of hw aa λy aD=>?_
   have ao:=aeh (hw.node y aD).wi;have aU:=ME _ (fE y.1) (Nat.le_refl _);have hd:=H7 y.1;have E4:y.1.length<=60:=E3 13 [] words dg (E2 h).1 y aD;omega
end Go.ak
namespace Go.aH
open Go
theorem Ut{w:World}{F:Nat->Prop}:∀{t:List c7} {xs:ak.c5},oh w F t xs->jZ w F t (fT xs)
 | _,_,.nil=>.nil
 | _,_,.cons h r=>.cons h (Ut r)
end Go.aH
namespace Go.ak
open Go.aH
def ua(c:Nat):Nat:=if c % 2=1 then(c / 2) ^^^ 3988292384 else c / 2
def q8:Nat->Nat->Nat
 | 0,c=>c
 | k+1,c=>ua (q8 k c)
def u9(c b:Nat):Nat:=q8 8 (c ^^^ b)
def rS(c:Nat)(l:List UInt8):Nat:=l.foldl (λc x=>u9 c x.toNat) c
def AV(c:Nat)(l:List UInt8):Nat:=4294967295-rS (4294967295-c) l
def kD(l:List UInt8):Nat:=AV 0 l
theorem aej{c:Nat}(h:c<4294967296):ua c<4294967296:=by
 unfold ua;split
 . exact xD aa aa
 . omega
theorem Ib{c:Nat}(h:c<4294967296):∀k,q8 k c<4294967296
 | 0=>h
 | k+1=>aej (Ib h k)
theorem AW{c b:Nat}(h:c<4294967296)(ab:b<256):u9 c b<4294967296:=Ib (xD h aa) 8
theorem asI(c:Nat)(b:UInt8)(h:c<4294967296):u9 c b.toNat<4294967296:=AW h b.toNat_lt
theorem Ic:∀(l:List UInt8) {c:Nat},c<4294967296->rS c l<4294967296
 | [],c,h=>h
 | x::l,c,h=>Ic l (AW h x.toNat_lt)
theorem Uu{c:Nat}{l:List UInt8}{k:Nat}{x:UInt8}(ag:l[k]?=some x):rS c (l.take (k+1))=u9 (rS c (l.take k)) x.toNat:=by
 unfold rS;rw[List.take_add_one,ag,List.foldl_append];rfl
theorem CL(c:Nat)(l:List UInt8):AV c l<4294967296:=by unfold AV;omega
theorem Uv{c fo:Nat}{k:Nat}(h:c=q8 k fo)(h1:c % 2=1):(c / 2) ^^^ 3988292384=q8 (k+1) fo:=by
 show _=ua (q8 k fo);rw[<-h];unfold ua;rw[if_pos h1]
theorem Uw{c fo:Nat}{k:Nat}(h:c=q8 k fo)(h1:¬ c % 2=1):c / 2=q8 (k+1) fo:=by
 show _=ua (q8 k fo);rw[<-h];unfold ua;rw[if_neg h1]
theorem aek(a b:Nat):(a ^^^ b) / 2=(a / 2) ^^^ (b / 2):=by
 have:=Nat.shiftRight_xor_distrib (a:=a) (b:=b) (i:=1);simpa[Nat.shiftRight_eq_div_pow] using this
theorem ael(a b:Nat):(a ^^^ b) % 2=(a % 2+b % 2) % 2:=by
 have:=Nat.xor_mod_two_pow (a:=a) (b:=b) (n:=1);simp only[Nat.pow_one] at this;rw[this];rcases Nat.mod_two_eq_zero_or_one a with h|h<;>rcases Nat.mod_two_eq_zero_or_one b with gN|gN<;>rw[h,gN]<;>rfl
def ss(fo b:Nat)(k c:Nat):Prop:=q8 k (fo ^^^ b)=c ^^^ (b / 2 ^ k)/\c<4294967296
theorem ss.start{fo b:Nat}(h:fo<4294967296):ss fo b 0 fo:=⟨by simp[q8],h⟩
theorem Ux{fo b k c:Nat}(h:ss fo b k c)(ab:b<256):q8 (k+1) (fo ^^^ b)=(if c % 2≠b / 2 ^ k % 2 then(c / 2) ^^^ 3988292384 else c / 2) ^^^ (b / 2 ^ (k+1)):=by
 show ua (q8 k (fo ^^^ b))=_;rw[h.1];unfold ua;rw[ael,aek,Nat.pow_succ,<-Nat.div_div_eq_div_mul];by_cases ao:c % 2=b / 2 ^ k % 2
 . rw[if_neg aa,if_neg aa]
 . rw[if_pos aa,if_pos ao,Nat.xor_assoc,Nat.xor_comm (b / 2 ^ k / 2),<-Nat.xor_assoc]
theorem ss.one{fo b k c:Nat}(h:ss fo b k c)(ab:b<256)(ao:c % 2≠b / 2 ^ k % 2):ss fo b (k+1) ((c / 2) ^^^ 3988292384):=⟨by rw[Ux h ab,if_pos ao],xD (by have:=h.2;omega) aa⟩
theorem ss.nil{fo b k c:Nat}(h:ss fo b k c)(ab:b<256)(ao:c % 2=b / 2 ^ k % 2):ss fo b (k+1) (c / 2):=⟨by rw[Ux h ab,if_neg aa],by have:=h.2;omega⟩
theorem ss.fin{fo b c:Nat}(h:ss fo b 8 c)(ab:b<256):c=u9 fo b:=by
 have:=h.1;rw[Nat.div_eq_of_lt (by omega:b<2 ^ 8),Nat.xor_zero] at this;exact this.symm
def fk(n:Int)(size:Nat):List UInt8:=(List.range size).map λi=>gC (IntKind.u64.wrap n / 2 ^ (8*(size-1-i)))
theorem ib(n:Int)(size:Nat):(fk n size).length=size:=by simp[fk]
theorem Uy{n:Int}{size i:Nat}{b out:List UInt8}{x:UInt8}(h:out=b++(fk n size).take i)(ar:i<size)(ag:x=gC (IntKind.u64.wrap n / 2 ^ (8*(size-1-i)))):out++[x]=b++(fk n size).take (i+1):=by
 rw[h,List.append_assoc];congr 1
 rw[List.take_add_one];congr 1
 unfold fk;rw[List.getElem?_map,List.getElem?_range ar,ag];rfl
def kX(l:List UInt8):Nat:=l.foldl (λn x=>n*256+x.toNat) 0
theorem Uz:∀(l:List UInt8) (n:Nat),l.foldl (λn x=>n*256+x.toNat) n<(n+1)*256 ^ l.length
 | [],n=>by simp
 | x::l,n=>by
  have:=Uz l (n*256+x.toNat)
  have ag:=x.toNat_lt
  rw[List.foldl_cons,List.length_cons,Nat.pow_succ]
  calc _<(n*256+x.toNat+1)*256 ^ l.length:=this
   _<=((n+1)*256)*256 ^ l.length:=Nat.mul_le_mul_right _ aa
   _=_:=by rw[Nat.mul_assoc,Nat.mul_comm 256]
theorem aem{l:List UInt8}{k:Nat}{x:UInt8}(ag:l[k]?=some x):kX (l.take (k+1))=kX (l.take k)*256+x.toNat:=by
 unfold kX;rw[List.take_add_one,ag,List.foldl_append];rfl
def mI(b:List UInt8)(at_ size:Int):Bool:=decide (1<=size/\size<=8/\0<=at_/\at_<=b.length/\size<=b.length-at_)
def j8(b:List UInt8)(at_ size:Int):Int:=if mI b at_ size=true then(kX ((b.drop at_.toNat).take size.toNat):Int) else 0
theorem Ie{b:List UInt8}{at_ size:Int}(h:¬ (1<=size/\size<=8/\0<=at_/\at_<=b.length/\size<=b.length-at_)):(0:Int)=j8 b at_ size/\false=mI b at_ size:=by
 have:mI b at_ size=false:=decide_eq_false h
 unfold j8;rw[this];exact⟨rfl,rfl⟩
theorem Ig{b:List UInt8}{at_ size:Int}(h:1<=size/\size<=8/\0<=at_/\at_<=b.length/\size<=b.length-at_):(kX ((b.drop at_.toNat).take size.toNat):Int)=j8 b at_ size/\true=mI b at_ size:=by
 have:mI b at_ size=true:=decide_eq_true h
 unfold j8;rw[this];exact⟨rfl,rfl⟩
theorem MF{l:List UInt8}:kX l<256 ^ l.length:=by
 have:=Uz l 0;unfold kX;simpa using this
def l7(e:ca):List UInt8:=fk e.rune 4++fk e.to 2
def kE(x:cw):List UInt8:=fk (if x.1=true then 1 else 0) 1++fk x.2.length 2++x.2.flatMap l7
def hG(N:List cw):List UInt8:=[73,78,75,49]++fk N.length 2++N.flatMap kE
def xE(b:List UInt8):List UInt8:=b++fk (kD b) 4
def kY(N:List cw):List UInt8:=xE (hG N)
end Go.ak
namespace Go.ak
open Go.aH
theorem aen{n i:Int}{size:Nat}{b out:List UInt8}(h:out=b++(fk n size).take ((size:Int)-1-i).toNat)(bK:0<=i)(ar:i<(size:Int)):out++[gC (IntKind.u64.wrap n / 2 ^ (8*i).toNat)]=b++(fk n size).take ((size:Int)-1-(i-1)).toNat:=by
 have:=Uy (x:=gC (IntKind.u64.wrap n / 2 ^ (8*i).toNat)) h aa (by congr 3;omega);rw[this];congr 2;omega
theorem MG{l:List UInt8}{i:Nat}(h:i<=4):kX (l.take i)<4294967296:=by
 have h1:=MF (l:=l.take i);have ah:(l.take i).length<=4:=(by rw[List.length_take];omega);have aB:256 ^ (l.take i).length<=256 ^ 4:=Nat.pow_le_pow_right aa ah;omega
theorem UA{at_:Int}{b:List UInt8}{m i:Nat}{x:UInt8}(h:m=kX ((b.drop at_.toNat).take i))(ag:b[(at_+(i:Int)).toNat]?=some x)(bK:0<=at_):m*256+x.toNat=kX ((b.drop at_.toNat).take (i+1)):=by
 rw[h];symm;refine aem ?_;rw[List.getElem?_drop,<-ag];congr 1;omega
theorem MH(b:List UInt8)(at_:Int)(size:Nat):0<=j8 b at_ size:=by unfold j8;split<;>omega
end Go.ak
namespace Go.ak
open Go.aH
theorem aeo{g:List cw}{i:Nat}(h:i<g.length):g[i]?=some (nodeAt g (i:Int)):=by
 rw[Mp aa (List.getElem?_eq_getElem h)];exact List.getElem?_eq_getElem h
theorem UB(g:List cw):[73,78,75,49]++fk (g.length:Int) 2++(g.drop 0).flatMap kE=hG g:=rfl
theorem E5{g:List cw}{B out:List UInt8}{i:Nat}{x:cw}{f:Int}(h:out++(g.drop i).flatMap kE=B)(ag:g[i]?=some x)(bB:f=if x.1=true then 1 else 0):out++fk f 1++fk (x.2.length:Int) 2++((x.2.drop 0).flatMap l7++(g.drop (i+1)).flatMap kE)=B:=by
 rw[<-h,wu ag,List.flatMap_cons,bB];unfold kE;simp
theorem E6{B out:List UInt8}{es:List ca}{R:List UInt8}{k:Nat}{e:ca}(h:out++((es.drop k).flatMap l7++R)=B)(ag:es[k]?=some e):out++fk e.rune 4++fk e.to 2++((es.drop (k+1)).flatMap l7++R)=B:=by
 rw[<-h,wu ag,List.flatMap_cons];unfold l7;simp
theorem Ih{B out:List UInt8}{es:List ca}{R:List UInt8}{k:Nat}(h:out++((es.drop k).flatMap l7++R)=B)(hk:es.length<=k):out++R=B:=by
 rw[List.drop_of_length_le hk] at h;simpa using h
theorem Ii{B out R:List UInt8}(h:out++R=B):out.length<=B.length:=by rw[<-h,List.length_append];omega
theorem Ij{B out R:List UInt8}{es:List ca}{k:Nat}{e:ca}(h:out++((es.drop k).flatMap l7++R)=B)(ag:es[k]?=some e):out.length+6<=B.length:=by
 have:=Ii (E6 h ag);simp only[List.length_append,ib] at this;omega
theorem MI{g:List cw}{B out:List UInt8}{i:Nat}{x:cw}(h:out++(g.drop i).flatMap kE=B)(ag:g[i]?=some x):out.length+3<=B.length:=by
 have:=Ii (E5 (f:=if x.1=true then 1 else 0) h ag rfl);simp only[List.length_append,ib] at this;omega
theorem UC{g:List cw}{out:List UInt8}{i:Nat}(h:out++(g.drop i).flatMap kE=hG g)(ar:g.length<=i):out=hG g:=by
 rw[List.drop_of_length_le ar] at h;simpa using h
def y1(g:List cw):List UInt8:=if g.isEmpty=true then[] else kY g
theorem UD{g:List cw}(h:g=[]):y1 g=[]:=by subst h;rfl
theorem MJ{g:List cw}(h:g≠[]):y1 g=kY g:=by
 unfold y1;rw[if_neg];cases g<;>simp at *
def Ik(g:List cw):Int:=if g.isEmpty=true then 2 else 0
theorem UE{g:List cw}(h:g≠[]):(0:Int)=Ik g:=by
 unfold Ik;rw[if_neg];cases g<;>simp at *
def ly(words:List aj):List UInt8:=if e6 words=0 then kY (h7 words) else[]
theorem UF{words:List aj}(h:e6 words≠0):([]:List UInt8)=ly words:=by unfold ly;rw[if_neg h]
theorem Il{g:c5}{i:Nat}{x:List aj×List ca}(h:g[i]?=some x):(fT g)[i]?=some (jY x.1,x.2):=by unfold fT;rw[List.getElem?_map,h];rfl
end Go.ak
namespace Go.ak
open Go.aH
theorem aep(es:List ca):(es.flatMap l7).length=6*es.length:=by
 induction es with
 | nil=>rfl
 | cons e es b'=>rw[List.flatMap_cons,List.length_append,b',List.length_cons];unfold l7;rw[List.length_append,ib,ib];omega
def CM(N:List cw):Nat:=(N.map λx=>x.2.length).sum
theorem aeq(N:List cw):(N.flatMap kE).length=3*N.length+6*CM N:=by
 unfold CM
 induction N with
 | nil=>rfl
 | cons x N b' =>
  rw[List.flatMap_cons,List.length_append,b',List.length_cons,List.map_cons,List.sum_cons];unfold kE;rw[List.length_append,List.length_append,ib,ib,aep];omega
theorem MK(N:List cw):(hG N).length=6+3*N.length+6*CM N:=by
 unfold hG;rw[List.length_append,List.length_append,ib,aeq];simp only[List.length_cons,List.length_nil];omega
theorem oa(N:List cw):(kY N).length=10+3*N.length+6*CM N:=by
 unfold kY xE;rw[List.length_append,ib,MK];omega
theorem aer{N:List cw}{m:Nat}(h:∀x∈N,x.2.length<=m):CM N<=N.length*m:=by
 unfold CM
 induction N with
 | nil=>simp
 | cons x N b' =>
  have h1:=h x dg;have ah:=b' λy aD=>h y (by simp[aD])
  rw[List.map_cons,List.sum_cons,List.length_cons,Nat.succ_mul];omega
end Go.ak
namespace Go.ak
open Go.aH
theorem UG{g:c5}{out:List UInt8}{i:Nat}{ub:List aj×List ca}(h:out++((fT g).drop i).flatMap kE=hG (fT g))(ag:g[i]?=some ub)(ab:(nodeAt (fT g) (i:Int)).1=true):out++fk 1 1++fk (ub.2.length:Int) 2++((ub.2.drop 0).flatMap l7++((fT g).drop (i+1)).flatMap kE)=hG (fT g):=by
 rw[AR ag] at ab;exact E5 (x:=(jY ub.1,ub.2)) h (Il ag) (by rw[if_pos ab])
theorem UH{g:c5}{out:List UInt8}{i:Nat}{ub:List aj×List ca}(h:out++((fT g).drop i).flatMap kE=hG (fT g))(ag:g[i]?=some ub)(ab:(nodeAt (fT g) (i:Int)).1=false):out++fk 0 1++fk (ub.2.length:Int) 2++((ub.2.drop 0).flatMap l7++((fT g).drop (i+1)).flatMap kE)=hG (fT g):=by
 rw[AR ag] at ab;have yL:jY ub.1=false:=ab;exact E5 (x:=(jY ub.1,ub.2)) h (Il ag) (by rw[if_neg (by simp[yL])])
end Go.ak
namespace Go.aH
open Go Go.ak
def jv{R:Nat->Prop}(t:List c7)(xs:c5):dk R:=⟨λF w=>oh w F t xs,λh hm bs _=>oh.keep h hm bs⟩
abbrev CN:Nat->Prop:=λ_=>False
def la(aes nL kZ:TypeId)(jH:Nat)(s:c5)(bn:List c7):dk CN:=
 nK λx:Nat×Nat×Value=>bk [ax jH [ptr x.1 0,.map (some x.2.1)] aes,ax x.1 [x.2.2] nL,lx aE fC x.2.1 (l5 s),aS ft kZ 2 x.2.2 bn]
theorem u_{R:Nat->Prop}{A B:dk R}{F:Nat->Prop}{w:World}(h:(bk [A,B]).p F w):∃fq bu,A.p fq w/\B.p bu w/\(∀b,fq b->F b)/\(∀b,bu b->F b):=by
 obtain⟨fe,h1,ah,aB⟩:=h;exact⟨fe 0,fe 1,h1 0 A rfl,h1 1 B rfl,λb ab=>(ah 0 b ab).1.1,λb ab=>(ah 1 b ab).1.1⟩
theorem Im{t t2:List c7}{xs gR:c5}{F:Nat->Prop}{w:World}{R:Nat->Prop}(h:(bk (R:=R) [jv t xs,jv t2 gR]).p F w):(jv (R:=R) (t++t2) (xs++gR)).p F w:=by
 obtain⟨fq,bu,h1,ah,aB,bE⟩:=u_ h;exact cZ.app (oh.mono h1 aB) (oh.mono ah bE)
theorem th{α:Type}{enc:α->List Value}{e:TypeId}{sz:Nat}{v:Value}{l:List α}{F:Nat->Prop}{w:World}{R:Nat->Prop}(h:(aS (R:=R) enc e sz v l).p F w):aq enc w F v l:=by
 obtain⟨g,h1,ah⟩:=h;refine h1.ch.mono λb ab=>?_
 rcases h1 with ⟨_,_,bE⟩|⟨sl,cap,cur,bK,_⟩
 . unfold dq at ab;omega
 . exact ah b (by unfold dq at ab;omega)
theorem UI{α:Type}{enc:α->List Value}{v:Value}{l:List α}{F:Nat->Prop}{w:World}{R:Nat->Prop}(h:(fa (R:=R) enc [(v,l)]).p F w):aq enc w (λb=>F b\/R b) v l:=h (v,l) (List.mem_singleton_self _)
theorem E7{α:Type}{enc:α->List Value}{v:Value}{l:List α}{F:Nat->Prop}{w:World}(h:(fa (R:=CN) enc [(v,l)]).p F w):aq enc w F v l:=(UI h).mono λb ab=>ab.resolve_right id
theorem Io{R:Nat->Prop}{A:dk R}{t:List c7}{xs:c5}{F:Nat->Prop}{w:World}(h:(bk [A,jv t xs]).p F w):t.length=xs.length:=by
 obtain⟨fq,bu,h1,ah,aB,bE⟩:=u_ h;exact oh.len ah
theorem UJ{e:TypeId}{v:Value}{es:List ca}{t:List c7}{xs:c5}{x:List aj}{r:c7}{F:Nat->Prop}{w:World}(cI:v=r.e.val)(bB:r.fin=jY x){R:Nat->Prop}(h:(bk (R:=R) [aS e0 e 2 v es,jv t xs]).p F w):(jv (R:=R) (r::t) ((x,es)::xs)).p F w:=by
 obtain⟨fq,bu,h1,ah,aB,bE⟩:=u_ h;exact .cons ⟨bB,cI▸(th h1).mono aB⟩ (oh.mono ah bE)
end Go.aH
namespace Go.aH
open Go Go.ak
theorem au.dm{w0 w:World}{ez:Nat}{nL kZ:TypeId}{su:Value}{t:List c7}{xs:c5}(h:au CN CN w0 w [ax ez [su] nL,aS ft kZ 2 su t,jv t xs])(dG:xs≠[]):ht 0 w w0.heap.size w.heap.size (ptr ez 0) (fT xs):=by
 obtain⟨F,h1,ah,_⟩:=h.act (i:=0) rfl;have aT:=h.ad5 (i:=1) rfl;obtain⟨AX,aB,bE,_⟩:=h.act (i:=2) rfl;have ab:=ah ez h1.2;exact .inr ⟨ez,su,t,rfl,by simpa[fT] using dG,⟨ab.1.1.resolve_left id,ab.2,h1.1.row⟩,aT,Ut (oh.mono aB λb ab=>⟨(bE b ab).1.1.resolve_left id,(bE b ab).2⟩)⟩
theorem au.ic{w0 w:World}{ez:Nat}{nL:TypeId}{su:Value}(h:au CN CN w0 w [ax ez [su] nL,fa ft [(su,[c7.mk false (cK.mk none 0 0)])]]):ht 0 w w0.heap.size w.heap.size (ptr ez 0) [(false,[])]:=by
 obtain⟨F,h1,ah,_⟩:=h.act (i:=0) rfl;have aT:=h.H4 (i:=1) (k:=0) rfl rfl;have ab:=ah ez h1.2;exact .inr ⟨ez,su,_,rfl,by simp,⟨ab.1.1.resolve_left id,ab.2,h1.1.row⟩,aT,.cons ⟨rfl,aq.nil⟩ .nil⟩
theorem aet{bS F:Nat->Prop}{w0:World}(h:∀b,F b->((False\/w0.heap.size<=b)/\¬ False)/\bS b):∀b,dq 0 w0.heap.size b->¬ F b:=λb ab bB=>by
 have:=(h b bB).1.1.resolve_left id
 unfold dq at ab;omega
end Go.aH
namespace Go.ak
open Go.aH
theorem UK{l:List aj}(aT:o8 l){i j:Nat}{x y:aj}(ag:l[i]?=some x)(aD:l[j]?=some y)(h:i<j):nI x y:=by
 obtain⟨h1,rfl⟩:=List.getElem?_eq_some_iff.1 ag;obtain⟨ah,rfl⟩:=List.getElem?_eq_some_iff.1 aD;exact List.pairwise_iff_getElem.1 aT _ _ h1 ah h
structure y3(l:List aj)(w:aj)(i j:Nat):Prop where
 c0:∀k x,k<i->l[k]?=some x->nI x w
 ar:∀k x,j<=k->l[k]?=some x->¬ nI x w
theorem aeu{x w:aj}(h:nI x w):x≠w:=λe=>by subst e;exact lt_irrefl x h
theorem y3.yes{l:List aj}{w x:aj}{i:Nat}(ag:l[i]?=some x)(ao:Lib.compareBytes x w=0):true=l.contains w:=by
 have:=cmp_eq ao;subst this;exact(List.contains_iff_mem.2 (List.mem_of_getElem? ag)).symm
theorem y3.no{l:List aj}{w x:aj}{i j:Nat}(ab:y3 l w i j)(aT:o8 l)(mY:i=j)(ag:l[i]?=some x)(ao:Lib.compareBytes x w≠0):false=l.contains w:=by
 subst mY
 cases h:l.contains w with
 | false=>rfl
 | true =>
  obtain⟨k,hk⟩:=List.mem_iff_getElem?.1 (List.contains_iff_mem.1 h);rcases Nat.lt_or_ge k i with bj|bj
  . exact absurd (ab.c0 k w bj hk) (lt_irrefl w)
  . rcases Nat.lt_or_ge i k with ah|ah
    . exact absurd (UK aT ag hk ah) (ab.ar i x (Nat.le_refl _) ag)
    . have:k=i:=by omega
      subst this;rw[ag] at hk;cases hk;exact absurd (EL _) ao
theorem y3.none{l:List aj}{w:aj}{i j:Nat}(ab:y3 l w i j)(ar:l.length<=i):false=l.contains w:=by
 cases h:l.contains w with
 | false=>rfl
 | true =>
  obtain⟨k,hk⟩:=List.mem_iff_getElem?.1 (List.contains_iff_mem.1 h);have:=(List.getElem?_eq_some_iff.1 hk).1;exact absurd (ab.c0 k w aa hk) (lt_irrefl w)
theorem y3.at{l:List aj}{w x:aj}{i j:Nat}{b:Bool}(ab:y3 l w i j)(aT:o8 l)(mY:i=j)(ag:l[i]?=some x)(h:b=(Lib.compareBytes x w==0)):b=l.contains w:=by
 rw[h];by_cases ao:Lib.compareBytes x w=0
 . rw[<-y3.yes ag ao];simp[ao]
 . rw[<-ab.no aT mY ag ao];simp[ao]
theorem aev{l:List aj}(h:o8 l):l.Nodup:=h.imp λh=>aeu h
theorem aew{l:List aj}(h:e6 l=0):o8 l:=(wh h).2.2
theorem aex{l:List aj}(h:qZ l=false):l.length<=80:=by
 unfold qZ at h;simp only[Bool.or_eq_false_iff,decide_eq_false_iff_not] at h;omega
end Go.ak
namespace Go.ak
open Go.aH
theorem wy(n:Nat):gC (n:Int)=hP n:=ad7 n
theorem aey{r:Int}(bK:0<=r)(h:r<128):[gC r]=ei r.toNat:=by
 obtain⟨c,rfl⟩:=Int.eq_ofNat_of_zero_le bK;rw[Int.toNat_natCast];unfold ei;rw[if_pos aa,wy]
theorem aez{r:Int}(bK:0<=r)(h:¬ r<128)(ah:r<2048):[gC (192+r / 64),gC (128+r % 64)]=ei r.toNat:=by
 obtain⟨c,rfl⟩:=Int.eq_ofNat_of_zero_le bK;rw[Int.toNat_natCast];unfold ei;rw[if_neg aa,if_pos aa,<-wy,<-wy];rfl
theorem aeA{r:Int}(bK:0<=r)(h:¬ r<128)(ah:¬ r<2048)(aB:r<65536):[gC (224+r / 4096),gC (128+r / 64 % 64),gC (128+r % 64)]=ei r.toNat:=by
 obtain⟨c,rfl⟩:=Int.eq_ofNat_of_zero_le bK;rw[Int.toNat_natCast];unfold ei;rw[if_neg aa,if_neg aa,if_pos aa,<-wy,<-wy,<-wy];rfl
theorem aeB{r:Int}(bK:0<=r)(h:¬ r<128)(ah:¬ r<2048)(aB:¬ r<65536):[gC (240+r / 262144),gC (128+r / 4096 % 64),gC (128+r / 64 % 64),gC (128+r % 64)]=ei r.toNat:=by
 obtain⟨c,rfl⟩:=Int.eq_ofNat_of_zero_le bK;rw[Int.toNat_natCast];unfold ei;rw[if_neg aa,if_neg aa,if_neg aa,<-wy,<-wy,<-wy,<-wy];rfl
def AY(l:List Int):aj:=l.flatMap λr=>ei r.toNat
def y4(l:List Int):aj:=if l.all pB=true then AY l else[]
theorem aeC{l:List Int}{k:Nat}{x:Int}(ag:l[k]?=some x):AY (l.take (k+1))=AY (l.take k)++ei x.toNat:=by
 unfold AY;rw[List.take_add_one,ag];simp
theorem UL{l:List Int}{k:Nat}{x:Int}(ag:l[k]?=some x)(h:pB x=false):([]:aj)=y4 l/\false=l.all pB:=by
 have:l.all pB=false:=LX ag h
 unfold y4;rw[this];exact⟨rfl,rfl⟩
theorem UM{l:List Int}{k:Nat}{s:aj}(aw:(l.take k).all pB=true)(aT:s=AY (l.take k))(hk:l.length<=k):s=y4 l/\true=l.all pB:=by
 rw[List.take_of_length_le hk] at aw aT;unfold y4;rw[if_pos aw,aw];exact⟨aT,rfl⟩
theorem aeD(c:Nat):(ei c).length<=4:=xC c
theorem aeE{c:Nat}(h:kO c):pB (c:Int)=true:=by
 rw[Cq];unfold kO at h;exact decide_eq_true aa
theorem aeF{x:Int}(h:pB x=true):0<=x/\x<=1114111:=by
 rw[Cq] at h;have:=of_decide_eq_true h;omega
theorem ML{s:aj}(bB:im s)(dG:s≠[]):kO (ga s)/\ei (ga s)=dA s/\(jE s)[0]?=some ((ga s:Nat):Int)/\1<=(jE s).length:=by
 have h1:=(HT s bB).2 (ga s) (by rw[xv dG];simp[ga]);have ah:=(yS dG h1.2.2).2
 have aB:jE s=((ga s:Nat):Int)::(hc (s.drop (dec s).2)).map λn:Nat=>(n:Int):=by
  unfold jE;rw[if_pos (Tl.2 bB)];unfold ea;rw[xv dG];rfl
 exact⟨h1,ah,by rw[aB];rfl,by rw[aB];simp⟩
theorem UN{s:aj}(bB:im s)(dG:s≠[]):y4 ((jE s).take 1)=dA s:=by
 obtain⟨h1,ah,aB,bE⟩:=ML bB dG
 have c6:(jE s).take 1=[((ga s:Nat):Int)]:=by
  cases bj:jE s with
  | nil=>rw[bj] at bE;simp at bE
  | cons a r=>rw[bj] at aB;simp at aB;simp[aB]
 rw[c6];unfold y4;rw[if_pos (by simp[aeE h1])];unfold AY;simp[ah]
theorem aeG{s:aj}(bB:im s)(dG:s≠[])(h:¬ (1:Int)<((jE s).length:Int)):y4 (jE s)=dA s:=by
 rw[<-UN bB dG,List.take_of_length_le aa]
theorem aeH{c:Nat}(ao:kO c)(t:aj):dA (ei c++t)=ei c:=by
 have h:hc (ei c++t)=c::hc t:=wg ao t
 have dG:ei c++t≠[]:=by
  intro e
  rw[e] at h;simp[xu] at h
 have hd:(dec (ei c++t)).1=c:=by
  rw[xv dG] at h
  exact(List.cons.inj h).1
 have:=(yS dG (by rw[hd];exact ao.2.2)).2;rw[hd] at this;exact this.symm
theorem aeI{s:c5}{r:List aj}(h:∀x∈s,x.1≠r):(s.findIdx? λx=>x.1==r)=none:=by
 rw[List.findIdx?_eq_none_iff];intro x ag;exact beq_eq_false_iff_ne.2 (h x ag)
theorem UO{x t:aj}(ag:im x)(kC:x≠[])(a8:im t)(asJ:t≠[]):(dA t==dA x)=(dA x).isPrefixOf t:=by
 obtain⟨h1,ah,_⟩:=ML ag kC;rw[Bool.eq_iff_iff,beq_iff_eq];constructor
 . intro e;rw[<-e];exact AE t
 . intro h;have:=Cw h;rw[<-ah] at this ⊢;rw[this];exact(aeH h1 _)
def p8(aI:List aj)(i:Nat):List aj:=if i=0 then fE aI else aI.drop i
theorem UP(aI:List aj):p8 aI 0=fE aI:=rfl
theorem E8{l:List aj}(aT:o8 l){i:Nat}{x:aj}(ag:l[i]?=some x)(ar:0<i):x≠[]:=by
 have hL:=(List.getElem?_eq_some_iff.1 ag).1;have bK:l[0]?=some l[0]:=List.getElem?_eq_getElem aa;have:=UK aT bK ag ar;intro e;subst e;unfold nI at this
 have ah:Lib.compareBytes l[0] []>=0:=by
  cases l[0] with
  | nil=>decide
  | cons a r=>show(1:Int)>=0;omega
 omega
theorem aeJ{l:List aj}(aT:o8 l){k bC:Nat}{x y:aj}(ag:l[k]?=some x)(kC:x≠[])(hk:k<=bC)(aD:l[bC]?=some y):y≠[]:=by
 rcases Nat.eq_or_lt_of_le hk with e|h
 . subst e;rw[ag] at aD;cases aD;exact kC
 . exact E8 aT aD aa
theorem aeK(s:aj):∀x∈jE s,-2147483648<=x/\x<=2147483647:=by
 intro x ag;obtain⟨k,hk⟩:=List.mem_iff_getElem?.1 ag;have:=adV hk;omega
theorem aeL{aI:List aj}(aU:gu aI){i:Nat}{x:aj}(ag:aI[i]?=some x)(he:x=[]):p8 aI i=p8 aI (i+1)/\i=0:=by
 have ar:i=0:=by
  rcases Nat.eq_zero_or_pos i with h|h
  . exact h
  . exact absurd he (E8 aU.sorted ag h)
 subst ar;refine⟨?_,rfl⟩;rw[UP,(Uf ag he).1];rfl
theorem CO{aI:List aj}{i:Nat}{x:aj}(ag:aI[i]?=some x)(dG:x≠[]):p8 aI i=aI.drop i:=by
 unfold p8;split
 . rename_i h;subst h;rw[(Ug ag dG).1];rfl
 . rfl
theorem aeM{aI:List aj}{i:Nat}(h:aI.length<=i):p8 aI i=[]:=by
 unfold p8;split
 . have:aI=[]:=List.eq_nil_of_length_eq_zero aa
   subst this;rfl
 . exact List.drop_of_length_le h
theorem UQ{aI:List aj}{i:Nat}(h:0<i):p8 aI i=aI.drop i:=by unfold p8;rw[if_neg aa]
theorem UR{aI:List aj}{f:Nat}(aU:gu aI)(hd:Deep f aI)(i:Nat):gu (p8 aI i)/\(∀t∈p8 aI i,t≠[])/\Deep f (p8 aI i):=by
 unfold p8;split
 . have:=u3 aU;exact⟨this.1,this.2,λt a8=>hd t (AI a8)⟩
 . rename_i ar;refine⟨⟨L_ aU.sorted (List.drop_suffix _ _),λt a8=>aU.o9 t (List.mem_of_mem_drop a8)⟩,λt a8=>?_,λt a8=>hd t (List.mem_of_mem_drop a8)⟩;obtain⟨k,hk⟩:=List.mem_iff_getElem?.1 a8;rw[List.getElem?_drop] at hk;exact E8 aU.sorted hk aa
theorem US(aI:List aj)(i:Nat):jg (p8 aI i)<=jg aI:=by
 unfold p8;split
 . rw[H6];exact Nat.le_refl _
 . have:=T9 (aI.take i) (aI.drop i);rw[List.take_append_drop] at this;omega
theorem aeN{s:c5}{r:List aj}{k:Nat}{x:List aj×List ca}(fW:∀y∈s.take k,y.1≠r)(ag:s[k]?=some x)(he:x.1=r):(s.findIdx? λx=>x.1==r)=some k:=by
 obtain⟨hk,rfl⟩:=List.getElem?_eq_some_iff.1 ag;rw[List.findIdx?_eq_some_iff_getElem];refine⟨hk,by simpa using he,λj bo=>?_⟩;have:=fW s[j] (by rw[List.mem_take_iff_getElem];exact⟨j,by omega,rfl⟩);simpa using this
theorem aeO{s:c5}{r:List aj}{k:Nat}{x:List aj×List ca}(fW:∀y∈s.take k,y.1≠r)(ag:s[k]?=some x)(he:x.1≠r):∀y∈s.take (k+1),y.1≠r:=by
 intro y aD;rw[List.take_add_one,ag] at aD;simp only[Option.toList_some,List.mem_append,List.mem_singleton] at aD;rcases aD with aD|rfl
 . exact fW y aD
 . exact he
theorem aeP{s:c5}{r:List aj}{k:Nat}(fW:∀y∈s.take k,y.1≠r)(hk:s.length<=k):(s.findIdx? λx=>x.1==r)=none:=by
 rw[List.take_of_length_le hk] at fW;exact aeI fW
theorem aeQ{s:c5}{aI:List aj}(bB:(s.findIdx? λx=>x.1==aI)=none)(gI:(names s).Nodup):(names (s++(aI,[])::[])).Nodup:=by
 have fW:=L' bB;unfold names;rw[List.map_append,List.nodup_append];refine⟨gI,by simp,λa aw b ab=>?_⟩;simp only[List.map_cons,List.map_nil,List.mem_singleton] at ab;subst ab;exact λe=>fW (by rw[<-e];exact aw)
theorem UT{f:Nat}{s:c5}{aI:List aj}(hd:Deep f aI)(aU:gu aI)(dG:aI≠[])(aN:(names s).Nodup):(names (e1 (f+1) s aI).1).Nodup:=(AJ f s aI hd aU dG aN).apart
end Go.ak
namespace Go.ak
open Go.aH
theorem UU{words:List aj}(h:e6 words=0):h7 words≠[]:=by
 rw[t' h];unfold o' fT;split
 . simp
 . rename_i dG;obtain⟨es,he⟩:=(Cx (ta h).2 (ta h).1 dG).root;intro e;rw[List.map_eq_nil_iff] at e;rw[e] at he;simp at he
theorem aeR(c:Nat)(cs:List Nat):so (c::cs)=ei c++so cs:=rfl
end Go.ak
namespace Go.aH
open Go Go.ak
structure hf where
 r:cK
 e:cK
def oi(x:hf):List Value:=[x.r.val,x.e.val]
theorem u'(x:hf):(oi x).length=2:=rfl
theorem aeS(x:hf):(oi x).all (·.oneCell')=true:=rfl
section
variable {R:Nat->Prop}
def h8(w:World)(F:Nat->Prop)(bn:List hf)(s:c5):Prop:=cZ (λn x=>aq cC w F n.r.val x.1/\aq e0 w F n.e.val x.2) bn s
theorem h8.mono{w:World}{F F':Nat->Prop}{bn:List hf}{s:c5}(h:h8 w F bn s)(bs:∀b,F b->F' b):h8 w F' bn s:=cZ.imp (λr n ⟨h1,ah⟩=>⟨h1.mono bs,ah.mono bs⟩) h
theorem h8.keep{M:Nat->Prop}{w an:World}{F:Nat->Prop}{bn:List hf}{s:c5}(h:h8 w F bn s)(hm:Mod M w an)(bs:∀b,F b->¬ M b):h8 an F bn s:=cZ.imp (λr n ⟨h1,ah⟩=>⟨h1.keep hm bs,ah.keep hm bs⟩) h
theorem h8.len{w:World}{F:Nat->Prop}{bn:List hf}{s:c5}(h:h8 w F bn s):bn.length=s.length:=(cZ.get h).1
theorem h8.at{w:World}{F:Nat->Prop}{bn:List hf}{s:c5}(h:h8 w F bn s){k:Nat}{n:hf}(aN:bn[k]?=some n):∃x,s[k]?=some x/\aq cC w F n.r.val x.1/\aq e0 w F n.e.val x.2:=by
 have aU:=cZ.get h;have hL:=(List.getElem?_eq_some_iff.1 aN).1;have ag:s[k]?=some (s[k]'(by rw[<-aU.1];exact hL)):=(by simp);exact⟨_,ag,aU.2 k _ _ aN ag⟩
def qx(bn:List hf)(s:c5):dk R:=⟨λF w=>h8 w (λb=>F b\/R b) bn s,λh hm bs fm=>h8.keep h hm λb ab=>ab.elim (bs b) (fm b)⟩
def pa(nL kZ:TypeId)(ez:Nat)(s:c5)(aT:List Value):dk R:=nK λx:Value×List hf=>pD (x.2.map (λn=>n.r.val)=aT) (bk [ax ez [x.1] nL,aS oi kZ 2 x.1 x.2,qx x.2 s])
theorem au.and{bS:Nat->Prop}{w0 w:World}{L:List (dk R)}{i:Nat}{P:Prop}{A:dk R}(h:au R bS w0 w L)(ar:L[i]?=some (pD P A)):P/\au R bS w0 w (L.set i A):=by
 obtain⟨F,h1,_⟩:=h.get ar;exact⟨h1.1,h.imp ar λF bs=>bs.2⟩
theorem au.aeT{bS:Nat->Prop}{w0 w:World}{L:List (dk R)}{i k:Nat}{bn:List hf}{s:c5}{n:hf}(h:au R bS w0 w L)(ar:L[i]?=some (qx bn s))(aN:bn[k]?=some n):∃x,s[k]?=some x/\aq cC w (dq 0 w.heap.size) n.r.val x.1/\aq e0 w (dq 0 w.heap.size) n.e.val x.2:=by
 obtain⟨F,h1,ah⟩:=h.get ar;have aB:h8 w (dq 0 w.heap.size) bn s:=h8.mono h1 λb ab=>⟨Nat.zero_le _,ab.elim (ah b) (h.t_ b)⟩
 exact aB.at aN
theorem au.UW{bS:Nat->Prop}{w0 w:World}{L:List (dk R)}{i:Nat}{bn:List hf}{s:c5}(h:au R bS w0 w L)(ar:L[i]?=some (qx bn s)):bn.length=s.length:=by
 obtain⟨F,h1,_⟩:=h.get ar;exact h8.len h1
theorem au.Ip{bS:Nat->Prop}{w0 w:World}{L:List (dk R)}{i k:Nat}{nL kZ:TypeId}{ez:Nat}{s:c5}{aT:List Value}{v:Value}{x:List aj×List ca}(h:au R bS w0 w L)(ar:L[i]?=some (pa nL kZ ez s aT))(cI:aT[k]?=some v)(ag:s[k]?=some x):aq cC w (dq 0 w.heap.size) v x.1:=by
 obtain⟨F,⟨⟨su,bn⟩,hm,fe,h1,ah,aB⟩,bs⟩:=h.get ar;have bE:h8 w (λb=>fe 2 b\/R b) bn s:=h1 2 _ rfl;have c6:h8 w (dq 0 w.heap.size) bn s:=h8.mono bE λb ab=>⟨Nat.zero_le _,ab.elim (λh=>(ah 2 b h).2) (h.t_ b)⟩
 have ET:bn.map (λn=>n.r.val)=aT:=hm;subst ET;rw[List.getElem?_map] at cI;obtain⟨n,aN,rfl⟩:=Option.map_eq_some_iff.1 cI;obtain⟨ad3,te,eZ,_⟩:=c6.at aN;rw[ag] at te;cases te;exact eZ
theorem aeU{bn:List hf}{s:c5}{v:Value}{aI:List aj}{n:hf}{F:Nat->Prop}{w:World}(cI:v=n.r.val)(he:n.e.val=.slice none 0 0)(h:(bk (R:=R) [qx bn s,fa cC [(v,aI)]]).p F w):(qx (R:=R) (bn++[n]) (s++[(aI,[])])).p F w:=by
 obtain⟨fq,bu,h1,ah,aB,bE⟩:=u_ h;exact cZ.app (h8.mono h1 λb ab=>ab.imp (aB b) id) (.cons ⟨cI▸(UI ah).mono λb ab=>ab.imp (bE b) id,he▸aq.nil⟩ .nil)
theorem UX{nL kZ:TypeId}{ez:Nat}{s:c5}{aT:List Value}{F:Nat->Prop}{w:World}(h:(pa (R:=R) nL kZ ez s aT).p F w):aT.length=s.length:=by
 obtain⟨⟨su,bn⟩,hm,fe,h1,ah,aB⟩:=h;have bE:h8 w (λb=>fe 2 b\/R b) bn s:=h1 2 _ rfl;have ET:bn.map (λn=>n.r.val)=aT:=hm;rw[<-ET,List.length_map];exact h8.len bE
theorem UY{α β:Type}{Q:α->β->Prop}:∀{a:List α} {b:List β} {i:Nat} {x:α} {y:β},cZ Q a b->Q x y->cZ Q (a.set i x) (b.set i y)
 | _,_,_,_,_,.nil,_=>.nil
 | _,_,0,_,_,.cons h r,dH=>.cons dH r
 | _,_,i+1,_,_,.cons h r,dH=>.cons h (UY r dH)
theorem aeV{bn:List hf}{s:c5}{k:Nat}{n:hf}{hd:cK}{aI:List aj}{ti es:List ca}{e:TypeId}{v:Value}{F:Nat->Prop}{w:World}(aN:bn[k]?=some n)(ag:s[k]?=some (aI,ti))(cI:v=hd.val)(h:(bk (R:=R) [qx bn s,aS e0 e 2 v es]).p F w):
 (qx (R:=R) (bn.set k (hf.mk n.r hd)) (s.set k (aI,es))).p F w:=by
 obtain⟨fq,bu,h1,ah,aB,bE⟩:=u_ h;have c6:h8 w (λb=>F b\/R b) bn s:=h8.mono h1 λb ab=>ab.imp (aB b) id
 obtain⟨x,te,eZ,_⟩:=c6.at aN;rw[ag] at te;cases te;exact UY c6 ⟨eZ,cI▸(th ah).mono λb ab=>.inl (bE b ab)⟩
end
theorem aeW{bn:List hf}{k:Nat}{n:hf}{hd:cK}(aN:bn[k]?=some n):(bn.set k (hf.mk n.r hd)).map (λn=>n.r.val)=bn.map (λn=>n.r.val):=by
 obtain⟨h,rfl⟩:=List.getElem?_eq_some_iff.1 aN;rw[List.map_set];refine List.ext_getElem? λi=>?_
 rw[List.getElem?_set];split
 . rename_i e;subst e;simp[h]
 . rfl
theorem xF{α:Type}{a b:List α}{x:α}{n:Nat}(h:n=a.length):(a++x::b)[n]?=some x:=by
 subst h;rw[List.getElem?_append_right (Nat.le_refl _),Nat.sub_self];rfl
theorem aeX{α:Type}{a b:List α}{x y:α}{n:Nat}(h:n=a.length):(a++x::b).set n y=a++y::b:=by
 subst h;rw[List.set_append_right _ _ (Nat.le_refl _),Nat.sub_self];rfl
end Go.aH
namespace Go.aH
open Go Go.ak
theorem h8.ext{w an:World}{F:Nat->Prop}{bn:List hf}{s:c5}(h:h8 w F bn s)(hm:Ext w an):h8 an F bn s:=h8.keep h hm λ_ _ x=>x
theorem h8.bF{w an:World}{c0 ar g:Nat}{bn:List hf}{s:c5}(h:h8 w (dq c0 ar) bn s)(hm:Mod (b_ g) w an)(aU:g<=c0\/ar<g):h8 an (dq c0 ar) bn s:=h8.keep h hm λb ab ag=>by unfold dq b_ at *;omega
theorem aeY{R F:Nat->Prop}{nL kZ:TypeId}{ez n:Nat}{s:c5}{aT:List Value}{w:World}(h:(pa (R:=R) nL kZ ez s aT).p F w)(bs:∀b,F b->b<w.heap.size/\n<=b)(fm:∀b,R b->b<w.heap.size):
 ∃su bn,ki w n w.heap.size ez [su]/\aq oi w (dq n w.heap.size) su bn/\h8 w (dq 0 w.heap.size) bn s:=by
 obtain⟨⟨su,bn⟩,hm,fe,h1,ah,aB⟩:=h;have rP:∀i b,fe i b->n<=b/\b<w.heap.size:=λi b ab=>⟨(bs b (ah i b ab).1.1).2,(ah i b ab).2⟩
 have td:=h1 0 _ rfl;have bC:=h1 1 _ rfl;have cy:=h1 2 _ rfl;exact⟨su,bn,⟨(rP 0 _ td.2).1,(rP 0 _ td.2).2,td.1.row⟩,(th bC).mono λb ab=>rP 1 b ab,h8.mono cy λb ab=>⟨Nat.zero_le _,ab.elim (λh=>(rP 2 b h).2) (fm b)⟩⟩
theorem aeZ(words:List aj):(e1 13 [] words).1=o' words:=by
 unfold o';split
 . rename_i h;subst h;rfl
 . rfl
theorem UZ{s:c5}{n:Int}{x:List aj×List ca}(h:0<=n)(ag:s[n.toNat]?=some x):nodeAt (fT s) n=(jY x.1,x.2):=by
 have:=AR ag;rw[show(n.toNat:Int)=n from by omega] at this;exact this
theorem ae0{s:c5}{n:Int}(h:n<0\/(s.length:Int)<=n):nodeAt (fT s) n=(false,[]):=EX (by rw[u6];exact h)
theorem ae1{r:List aj}{x:aj}(ag:r[0]?=some x){b:Bool}(ab:b=(x==[])):b=jY r:=by
 unfold jY;rw[ab,List.head?_eq_getElem?,ag]
 cases x<;>simp
theorem ae2{r:List aj}(h:¬ ((r.length:Int)>0)):false=jY r:=by
 have:r=[]:=List.eq_nil_of_length_eq_zero aa
 subst this;rfl
end Go.aH
namespace Go.aH
open Go
theorem MM{P:Program}{f:FuncId}{R:Ending->World->Prop}{n:Nat}{E:Env}{k:List Item}{w:World}{fn:Func}{t u:Tmp}{ty:TypeId}{b off sz by_:Nat}{z cs:List Value}{v2:Value}(bB:P.funcs[f]?=some fn)(oD:fn.results=#[.cell t ty,.tmp u])
 (cI:mE t E=some (ptr b off)) (a8:ey P ty=some (true,sz,by_,z)) (a':Row w b off cs) (aN:cs.length=sz) (ah:mE u E=some v2) (fm:R (.returned (.tuple #[.agg cs.toArray,v2])) w):hs P f R n E (.code .ret::k) w:=λa aw sl ab hk cs' =>
 ⟨_,w,{ sl.at a (.code .ret::k) with mode:=.returning },fm,.one step_ret,ab,B' aw bB ab hk (by
  have aU:a.tmps[t]?.getD undef=.pointer (some ⟨b,off,none⟩):=by have:=aw.has t _ cI;simpa[ptr] using this
  have eH:a.tmps[u]?.getD undef=v2:=by simpa using aw.has u _ ah
  simp[results,oD,aU,eH,asAddr,Sem.run_bind,Result.andThen,LG a8 a' aN])⟩
end Go.aH
namespace Go.ak
open Go.aH
theorem ae3{words:List aj}(h:e6 words=0):1<=(o' words).length/\(o' words).length<=2881:=by
 unfold o';split
 . simp
 . rename_i dG;obtain⟨es,he⟩:=(Cx (ta h).2 (ta h).1 dG).root;have:=(List.getElem?_eq_some_iff.1 he).1;have:=Uq h;omega
theorem ae4{words:List aj}(h:e6 words=0):∀y∈o' words,y.1.length<=60:=by
 unfold o';split
 . simp
 . exact E3 13 [] words dg (E2 h).1
end Go.ak
namespace Go.aH
open Go Go.ak
def xG(h:cK):List Value:=[h.val]
theorem E9(x:cK):(xG x).length=1:=rfl
theorem ae5(x:cK):(xG x).all (·.oneCell')=true:=rfl
section
variable {R:Nat->Prop} {α:Type} {enc:α->List Value}
def sv(enc:α->List Value)(aT:List cK)(ls:List (List α)):dk R:=⟨λF w=>cZ (λh l=>aq enc w (λb=>F b\/R b) h.val l) aT ls,λh hm bs fm=>cZ.imp (λ_ _ k=>k.keep hm λb ab=>ab.elim (bs b) (fm b)) h⟩
theorem au.Iq{bS:Nat->Prop}{w0 w:World}{L:List (dk R)}{i k:Nat}{aT:List cK}{ls:List (List α)}{x:cK}(h:au R bS w0 w L)(ar:L[i]?=some (sv enc aT ls))(ag:aT[k]?=some x):∃l,ls[k]?=some l/\aq enc w (dq 0 w.heap.size) x.val l:=by
 obtain⟨F,h1,ah⟩:=h.get ar;have aU:=cZ.get h1;have hL:=(List.getElem?_eq_some_iff.1 ag).1;have bj:ls[k]?=some (ls[k]'(by rw[<-aU.1];exact hL)):=(by simp);exact⟨_,bj,(aU.2 k _ _ ag bj).mono λb ab=>⟨Nat.zero_le _,ab.elim (ah b) (h.t_ b)⟩⟩
theorem au.U0{bS:Nat->Prop}{w0 w:World}{L:List (dk R)}{i:Nat}{aT:List cK}{ls:List (List α)}(h:au R bS w0 w L)(ar:L[i]?=some (sv enc aT ls)):aT.length=ls.length:=by
 obtain⟨F,h1,_⟩:=h.get ar;exact(cZ.get h1).1
theorem ae6{e:TypeId}{sz:Nat}{v:Value}{aT:List cK}{ls:List (List α)}{l:List α}{x:cK}{F:Nat->Prop}{w:World}(cI:v=x.val)(h:(bk (R:=R) [sv enc aT ls,aS enc e sz v l]).p F w):(sv (R:=R) enc (aT++[x]) (ls++[l])).p F w:=by
 obtain⟨fq,bu,h1,ah,aB,bE⟩:=u_ h;exact cZ.app (cZ.imp (λ_ _ k=>k.mono λb ab=>ab.imp (aB b) id) h1) (.cons (cI▸(th ah).mono λb ab=>.inl (bE b ab)) .nil)
end
end Go.aH
namespace Go.aH
open Go Go.ak
def wz{R:Nat->Prop}(v:Value)(N:List cw):dk R:=⟨λF w=>∃c0 ar,ht 0 w c0 ar v N/\ar<=w.heap.size/\∀b,c0<=b->b<ar->F b,λ⟨c0,ar,h1,aB,ah⟩ hm bs _=>⟨c0,ar,by
 rcases h1 with h1|⟨b,gJ,bn,bC,cy,⟨dE,hg,jw⟩,p9,pb⟩
 . exact .inl h1
 . exact .inr ⟨b,gJ,bn,bC,cy,⟨dE,hg,jw.keep hm (bs b (ah b dE hg))⟩,p9.keep hm λb ab=>bs b (ah b ab.1 ab.2),pb.keep hm λb ab=>bs b (ah b ab.1 ab.2)⟩,Nat.le_trans aB hm.size,ah⟩⟩
theorem au.U1{R bS:Nat->Prop}{w0 w:World}{L:List (dk R)}{i:Nat}{v:Value}{N:List cw}(h:au R bS w0 w L)(ar:L[i]?=some (wz v N)):∃c0 up,ht 0 w c0 up v N/\up<=w.heap.size:=by
 obtain⟨F,⟨c0,up,h1,ah,_⟩,_⟩:=h.get ar;exact⟨c0,up,h1,ah⟩
theorem au.MN{R bS:Nat->Prop}{w0 w an:World}{L:List (dk R)}{c0 ar:Nat}{v:Value}{N:List cw}(h:au R bS w0 w L)(hm:Ext w an)(aU:ht 0 an c0 ar v N)(h1:w.heap.size<=c0)(ah:ar<=an.heap.size):au R bS w0 an (L++[wz v N]):=
 h.new (F:=dq c0 ar) hm ⟨c0,ar,aU,ah,λb eb q2=>⟨eb,q2⟩⟩ λb ab=>⟨Nat.le_trans h1 ab.1,Nat.lt_of_lt_of_le ab.2 ah⟩
end Go.aH
namespace Go.ak
open Go.aH
theorem U2{words:List aj}(h:e6 words=0):∀x∈h7 words,x.2.length<=60:=by
 have bX:=CK h;intro x ag;rw[t' h] at ag;obtain⟨y,aD,rfl⟩:=List.mem_map.1 ag;have h1:=(cZ.get (bX.node y aD).1).1;have ah:=ME _ (fE y.1) (Nat.le_refl _);have aB:=H7 y.1;have bE:=ae4 h y aD;simp only;omega
theorem CP{words:List aj}(h:e6 words=0):1<=(h7 words).length/\(h7 words).length<=2881:=by
 rw[t' h,u6];exact ae3 h
theorem MO{words:List aj}(h:e6 words=0):(hG (h7 words)).length<=3000000:=by
 have h1:=aer (U2 h);have ah:=(CP h).2;rw[MK];omega
theorem U3{g:List cw}(h:(hG g).length<=3000000):(y1 g).length<=3000010:=by
 unfold y1;split
 . simp
 . rw[oa];rw[MK] at h;omega
theorem asK(g:List cw)(h:(hG g).length<=3000000):(y1 g).length<=3000010:=U3 h
theorem Ir{words:List aj}(h:e6 words=0):h7 words≠[]:=by
 intro e;have:=(CP h).1;rw[e] at this;simp at this
theorem ae7{words:List aj}(h:e6 words=0):y1 (h7 words)=ly words:=by
 unfold ly;rw[if_pos h,MJ (Ir h)]
theorem ae8{words:List aj}(h:e6 words=0):Ik (h7 words)=e6 words:=by
 rw[h];exact(UE (Ir h)).symm
theorem Is(words:List aj):(ly words).length<=3000010:=by
 unfold ly;split
 . rename_i h;rw[<-MJ (Ir h)];exact U3 (MO h)
 . simp
theorem CQ{words:List aj}(h:e6 words=0):kY (h7 words)=ly words:=by unfold ly;rw[if_pos h]
end Go.ak
namespace Go.ak
open Go.aH
def uc(l:List aj):Prop:=∀s∈l,s.length<=1000000000
theorem uc.at{l:List aj}(h:uc l){k:Nat}{x:aj}(ag:l[k]?=some x):x.length<=1000000000:=h x (List.mem_of_getElem? ag)
theorem ae9{l:List aj}(h:qZ l=false):uc l:=by
 intro s aT;unfold qZ at h;simp only[Bool.or_eq_false_iff,List.any_eq_false,decide_eq_true_eq] at h;have:=h.2 s aT;omega
end Go.ak
namespace Go.ak
open Go.aH
structure qy(c:cD):Prop where
 words:uc c.words
 cuts:∀k∈c.cuts,k.text.length<=1000
 wl:c.words.length<=80
 cl:c.cuts.length<=10
theorem qy.of{c:cD}(h:sm c=false):qy c:=by
 unfold sm at h;simp only[Bool.or_eq_false_iff,decide_eq_false_iff_not] at h;obtain⟨⟨h1,ah⟩,aB⟩:=h;refine⟨ae9 aB,λk hk=>?_,aex aB,by omega⟩;rw[List.any_eq_false] at ah;have:=ah k hk;simp only[decide_eq_true_eq] at this;omega
theorem ae_(a b:Key):HH a b=if pA a.len b.len≠0 then pA a.len b.len else Lib.compareBytes a.text b.text:=by
 unfold HH;simp only[oF];split
 . rfl
 . split
   . rfl
   . omega
theorem It{a b:Key}:o7 a b=true↔a.len<b.len\/a.len=b.len/\Lib.compareBytes a.text b.text<0:=by
 unfold o7;rw[decide_eq_true_eq,ae_];unfold pA;by_cases h1:a.len<b.len
 . simp[h1]
 . by_cases ah:a.len>b.len
   . simp[h1,ah];omega
   . have:a.len=b.len:=by omega
     simp[this]
theorem ae'{a b:Key}(h:a.len<b.len):true=o7 a b:=(It.2 (.inl h)).symm
theorem afa{a b:Key}(h1:¬ a.len<b.len)(ah:¬ a.len=b.len):false=o7 a b:=by
 cases h:o7 a b with
 | false=>rfl
 | true=>rw[It] at h;rcases h with h|h;exact absurd h h1;exact absurd h.1 ah
theorem afb{a b:Key}{c:Bool}(ah:a.len=b.len)(h:c=decide (Lib.compareBytes a.text b.text<0)):c=o7 a b:=by
 cases gN:o7 a b with
 | true =>
  rw[It] at gN;rcases gN with gN|gN
  . omega
  . rw[h];exact decide_eq_true gN.2
 | false =>
  rw[h];refine decide_eq_false λag=>?_
  have:=It.2 (.inr ⟨ah,ag⟩);rw[gN] at this;cases this
theorem afc{cuts:List Key}{w:aj}{j n:Nat}(hw:word w=true)(h:n=((cuts.take j).filter λc=>!o7 ⟨iP w,w⟩ c).length)(bo:cuts.length<=j):(n:Int)=ofM cuts w:=by
 rw[List.take_of_length_le bo] at h;unfold ofM;rw[if_pos hw,h];rfl
theorem afd{cuts:List Key}{w:aj}(hw:word w=false):(-1:Int)=ofM cuts w:=by unfold ofM;rw[hw];rfl
theorem asL(cuts:List Key)(w:aj):-1<=ofM cuts w/\ofM cuts w<=cuts.length:=by
 unfold ofM LY;split
 . have:=List.length_filter_le (λc=>!o7 ⟨iP w,w⟩ c) cuts;omega
 . omega
theorem afe{cuts:List Key}{w:aj}(hw:word w=true):0<=ofM cuts w:=by unfold ofM;rw[if_pos hw];omega
theorem aff{cuts:List Key}{shard:Int}{w:aj}(hw:word w=true)(h:ofM cuts w=shard):tS cuts shard w=true:=SS (afe hw) h
theorem afg{cuts:List Key}{shard:Int}{w:aj}(hw:word w=false):tS cuts shard w=false:=SU (by unfold ofM;rw[hw];simp)
theorem U4(cuts:List Key)(words:List aj)(shard:Int):(rL cuts words shard).length<=words.length:=List.length_filter_le _ _
theorem afh{cuts:List Key}{words:List aj}{shard:Int}(h:uc words):uc (rL cuts words shard):=λs aT=>h s (List.mem_filter.1 aT).1
theorem afi{cuts:List Key}{words:List aj}{shard:Int}(h:wa words):wa (rL cuts words shard):=λs aT=>h s (List.mem_filter.1 aT).1
theorem afj{c:cD}{shard:Int}{j:Nat}{l:List Int}(ar:l=(List.range j).map (λj:Nat=>1+(shard+(j:Int)) % c.workers))(h1:¬ (j:Int)<c.lK)(ah:j<=c.lK.toNat)(AZ:j=0\/within shard 0 ((je c:Int)-1)=true):l=jW c shard:=by
 by_cases hw:within shard 0 ((je c:Int)-1)=true
 . exact L3 hw ar aa
 . have bo:j=0:=AZ.resolve_right hw;subst bo;rw[ar];exact HO (by simpa using hw)
theorem afk{c:cD}{shard:Int}{j:Nat}{l:List Int}(ar:l=(List.range j).map (λj:Nat=>1+(shard+(j:Int)) % c.workers))(h1:shard<0\/(je c:Int)<=shard)(AZ:j=0\/within shard 0 ((je c:Int)-1)=true):l=jW c shard:=by
 have hw:within shard 0 ((je c:Int)-1)=false:=by
  unfold within
  rcases h1 with h1|h1
  . rw[decide_eq_false aa];rfl
  . rw[decide_eq_false (p:=shard<=_) aa,Bool.and_false]
 have bo:j=0:=AZ.resolve_right (by rw[hw];simp);subst bo;rw[ar];exact HO hw
theorem afl{shard:Int}{c:cD}(bK:0<=shard)(h1:shard<(je c:Int)):within shard 0 ((je c:Int)-1)=true:=by
 unfold within;rw[decide_eq_true bK,decide_eq_true aa];rfl
theorem afm{W s:Int}{i j:Nat}(oc:(i:Int)<W)(bo:(j:Int)<W)(h:(s+(i:Int)) % W=(s+(j:Int)) % W):i=j:=by
 have h1:=Int.emod_add_mul_ediv (s+(i:Int)) W;have ah:=Int.emod_add_mul_ediv (s+(j:Int)) W;rw[h] at h1;have aB:W*((s+i) / W-(s+j) / W)=(i:Int)-j:=(by rw[Int.mul_sub];omega);by_cases dH:(s+(i:Int)) / W-(s+(j:Int)) / W=0
 . rw[dH] at aB;omega
 . exfalso;rcases Int.lt_or_gt_of_ne dH with bE|bE
   . have:W*((s+i) / W-(s+j) / W)<=W*(-1):=Int.mul_le_mul_of_nonneg_left aa aa
     omega
   . have:W*1<=W*((s+i) / W-(s+j) / W):=Int.mul_le_mul_of_nonneg_left aa aa
     omega
theorem afn(c:cD)(shard:Int)(x:Int):(jW c shard).count x=if (jW c shard).contains x=true then 1 else 0:=by
 have aN:(jW c shard).Nodup:=by
  unfold jW
  split
  . rename_i hw
    have aT:=od hw
    have hm:=xw (HN (c:=c) aa)
    rw[List.Nodup,List.pairwise_map]
    refine List.Pairwise.imp_of_mem (R:=λa b=>a≠b) (λ{a b} aw ab mG e=>?_) (List.nodup_range (n:=c.lK.toNat))
    have h1:=List.mem_range.1 aw
    have ah:=List.mem_range.1 ab
    exact mG (afm (W:=c.workers) (s:=shard) aa aa aa)
  . simp
 by_cases h:x∈jW c shard
 . rw[if_pos (by simpa using h)];have h1:=List.nodup_iff_count.1 aN x;have ah:=List.count_pos_iff.2 h;omega
 . rw[if_neg (by simpa using h)];exact List.count_eq_zero.2 h
theorem afo{c:cD}{worker:Int}{k j:Nat}{l dL:List Int}(h:l=((List.range k).filter (λs:Nat=>(jW c (s:Int)).contains worker)).map (λs:Nat=>(s:Int)))(ah:dL=l++List.replicate (((jW c (k:Int)).take j).count worker) (k:Int))(bo:(jW c (k:Int)).length<=j):
 dL=((List.range (k+1)).filter (λs:Nat=>(jW c (s:Int)).contains worker)).map (λs:Nat=>(s:Int)):=by
 rw[List.take_of_length_le bo,afn] at ah;rw[ah,List.range_succ,List.filter_append,List.map_append,<-h];congr 1
 by_cases ao:(jW c (k:Int)).contains worker=true
 . rw[if_pos ao,List.filter_cons_of_pos (p:=λs:Nat=>(jW c (s:Int)).contains worker) ao];rfl
 . rw[if_neg ao,List.filter_cons_of_neg (p:=λs:Nat=>(jW c (s:Int)).contains worker) ao];rfl
theorem afp{l dL w:List Int}{worker x k:Int}{j:Nat}(ah:dL=l++List.replicate ((w.take j).count worker) k)(ag:w[j]?=some x)(he:x=worker):dL++[k]=l++List.replicate ((w.take (j+1)).count worker) k:=by
 rw[ah,List.take_add_one,ag,List.count_append,he];simp[List.replicate_succ']
theorem afq{l dL w:List Int}{worker x k:Int}{j:Nat}(ah:dL=l++List.replicate ((w.take j).count worker) k)(ag:w[j]?=some x)(he:¬ x=worker):dL=l++List.replicate ((w.take (j+1)).count worker) k:=by
 rw[ah,List.take_add_one,ag,List.count_append];simp[he]
def va(c:cD)(shard:Int):List aj:=if 0<=shard/\shard<(je c:Int) then rL c.cuts c.words shard else[]
theorem afr{c:cD}{shard:Int}(h:shard<0\/(je c:Int)<=shard):[]=va c shard:=by unfold va;rw[if_neg aa]
theorem U5{c:cD}{shard:Int}(h:0<=shard)(ah:shard<(je c:Int)):rL c.cuts c.words shard=va c shard:=by unfold va;rw[if_pos ⟨h,ah⟩]
def gW(c:cD)(shard:Int):List UInt8:=if 0<=shard/\shard<(je c:Int) then ly (rL c.cuts c.words shard) else[]
def wA(c:cD)(shard:Int):Int:=if 0<=shard/\shard<(je c:Int) then e6 (rL c.cuts c.words shard) else 4
theorem Iu{c:cD}{shard:Int}(h:shard<0\/(je c:Int)<=shard):([]:List UInt8)=gW c shard/\(4:Int)=wA c shard:=by unfold gW wA;rw[if_neg aa,if_neg aa];exact⟨rfl,rfl⟩
theorem E_{c:cD}{shard:Int}(h:0<=shard)(ah:shard<(je c:Int)):ly (rL c.cuts c.words shard)=gW c shard/\e6 (rL c.cuts c.words shard)=wA c shard:=by unfold gW wA;rw[if_pos ⟨h,ah⟩,if_pos ⟨h,ah⟩];exact⟨rfl,rfl⟩
theorem U6(c:cD)(shard:Int):(gW c shard).length<=3000010:=by
 unfold gW;split
 . exact Is _
 . simp
theorem U7(c:cD)(shard:Int):(jW c shard).length<=3:=by
 unfold jW;split
 . rename_i hw;have aT:=od hw;have hm:=xw (HN (c:=c) aa);simp;omega
 . simp
theorem CR(c:cD)(worker:Int):(cn c worker).length<=6:=by
 unfold cn;rw[List.length_map];have h1:=List.length_filter_le (λs:Nat=>(jW c (s:Int)).contains worker) (List.range (je c));have ah:=uY c;rw[List.length_range] at h1;omega
end Go.ak
theorem Go.ak.afs(c:Go.ak.cD)(shard:Int):(Go.ak.va c shard).length<=c.words.length:=by
 unfold Go.ak.va;split
 . exact Go.ak.U4 _ _ _
 . simp
theorem Go.ak.aft(c:Go.ak.cD)(shard:Int):0<=Go.ak.wA c shard/\Go.ak.wA c shard<=100:=by
 unfold Go.ak.wA;split
 . have:=Go.ak.yM (Go.ak.rL c.cuts c.words shard);omega
 . omega
namespace Go.ak
open Go.aH
def ed(b:List UInt8)(size:Nat)(s:Int×Bool):Int×(Int×Bool):=if mI b s.1 size=true then(j8 b s.1 size,(s.1+size,s.2)) else(0,(s.1,true))
theorem y5{b:List UInt8}{size:Nat}{a:Int}{q:Bool}(h:mI b a size=false):ed b size (a,q)=(0,(a,true)):=by unfold ed;rw[if_neg (by simp[h])]
theorem vb{b:List UInt8}{size:Nat}{a:Int}{q:Bool}(h:mI b a size=true):ed b size (a,q)=(j8 b a size,(a+size,q)):=by unfold ed;rw[if_pos h]
theorem U8{b:List UInt8}{a:Int}{size:Nat}(h:size<=4):j8 b a size<4294967296:=by
 unfold j8;split
 . have:=MG (i:=size) (l:=b.drop a.toNat) h;simp only[Int.toNat_natCast];omega
 . omega
theorem q9{b:List UInt8}{size:Nat}{a f a2:Int}{q q2:Bool}(aT:size<=4)(aw:0<=a/\a<=b.length)(h:ed b size (a,q)=(f,(a2,q2))):0<=f/\f<4294967296/\a<=a2/\a2<=b.length/\a2<=a+size/\(q=true->q2=true)/\(q2=false->a2=a+size):=by
 have bK:=MH b a size;have h1:=U8 (b:=b) (a:=a) aT
 cases bX:mI b a size with
 | false =>
  rw[y5 bX] at h;simp only[Prod.mk.injEq] at h;obtain⟨rfl,rfl,rfl⟩:=h;exact⟨by omega,by omega,by omega,by omega,by omega,λ_=>rfl,λh=>by cases h⟩
 | true =>
  rw[vb bX] at h;simp only[Prod.mk.injEq] at h;obtain⟨rfl,rfl,rfl⟩:=h;unfold mI at bX;have:=of_decide_eq_true bX;exact⟨bK,h1,by omega,by omega,by omega,id,λ_=>rfl⟩
theorem A0{b:List UInt8}{a f a2:Int}{q q2:Bool}{size:Nat}(h:ed b size (a,q)=(f,(a2,q2)))(aT:size<=2):f<65536:=by
 cases bX:mI b a size with
 | false =>
  rw[y5 bX] at h;simp only[Prod.mk.injEq] at h;omega
 | true =>
  rw[vb bX] at h;simp only[Prod.mk.injEq] at h;rw[<-h.1];unfold j8;rw[if_pos bX];have h1:=MF (l:=(b.drop a.toNat).take size);have ah:((b.drop a.toNat).take size).length<=2:=(by rw[List.length_take];omega);have aB:256 ^ ((b.drop a.toNat).take size).length<=256 ^ 2:=Nat.pow_le_pow_right aa ah;simp only[Int.toNat_natCast];omega
def rT(b:List UInt8)(s:Int×Bool):ca×(Int×Bool):=
 let r:=ed b 4 s
 let t:=ed b 2 (r.2.1,r.2.2 || decide (r.1>1114111))
 (ca.mk (IntKind.i32.wrap r.1) t.1,t.2)
def kr(b:List UInt8):Nat->Int×Bool->List ca×(Int×Bool)
 | 0,s=>([],s)
 | n+1,s=>if s.2=true then([],s) else((rT b s).1::(kr b n (rT b s).2).1,(kr b n (rT b s).2).2)
def l8(b:List UInt8)(s:Int×Bool):cw×(Int×Bool):=
 let f:=ed b 1 s
 let c:=ed b 2 (f.2.1,f.2.2 || decide (f.1>1))
 let r:=kr b c.1.toNat c.2
 ((decide (f.1=1),r.1),r.2)
def lb(b:List UInt8):Nat->Int×Bool->List cw×(Int×Bool)
 | 0,s=>([],s)
 | n+1,s=>if s.2=true then([],s) else((l8 b s).1::(lb b n (l8 b s).2).1,(lb b n (l8 b s).2).2)
def qz(b:List UInt8)(n:Nat)(dB:Int×Bool)(i:Nat)(es:List ca)(s:Int×Bool):Prop:=kr b n dB=(es++(kr b (n-i) s).1,(kr b (n-i) s).2)
theorem qz.start(b:List UInt8)(n:Nat)(s:Int×Bool):qz b n s 0 [] s:=by unfold qz;simp
theorem qz.step{b:List UInt8}{n i:Nat}{dB:Int×Bool}{a:Int}{es:List ca}{e:ca}{jT:Int×Bool}(h:qz b n dB i es (a,false))(ar:i<n)(he:rT b (a,false)=(e,jT)):qz b n dB (i+1) (es++[e]) jT:=by
 unfold qz at *;rw[h];obtain⟨m,hm⟩:∃m,n-i=m+1:=⟨n-i-1,by omega⟩;rw[hm,show n-(i+1)=m from by omega]
 conv=>lhs;unfold kr
 rw[if_neg dg,he];simp
theorem qz.bad{b:List UInt8}{n i:Nat}{dB:Int×Bool}{a:Int}{es:List ca}(h:qz b n dB i es (a,true)):kr b n dB=(es,(a,true)):=by
 unfold qz at h;rw[h]
 cases n-i with
 | zero=>simp[kr]
 | succ m=>unfold kr;simp
theorem qz.fin{b:List UInt8}{n i:Nat}{dB:Int×Bool}{es:List ca}{s:Int×Bool}(h:qz b n dB i es s)(ar:n<=i):kr b n dB=(es,s):=by
 unfold qz at h;rw[show n-i=0 from by omega] at h;rw[h];simp[kr]
end Go.ak
namespace Go.ak
open Go.aH
theorem afu{b:List UInt8}{s:Int×Bool}{f h9 t a2:Int}{eb X q2:Bool}(h1:(f,h9,eb)=ed b 4 s)(rU:X=(eb || decide (f>1114111)))(ah:(t,a2,q2)=ed b 2 (h9,X)):rT b s=(ca.mk (IntKind.i32.wrap f) t,(a2,q2)):=by
 unfold rT;simp only[<-h1,<-rU,<-ah]
theorem Iv{b:List UInt8}{a:Int}{q:Bool}{f h9 c a2 a3:Int}{eb X q2 fx fin:Bool}{es:List ca}(h1:(f,h9,eb)=ed b 1 (a,q))(rU:X=(eb || decide (f>1)))(ah:(c,a2,q2)=ed b 2 (h9,X))(aB:kr b c.toNat (a2,q2)=(es,(a3,fx)))(bB:fin=(f==1)):l8 b (a,q)=((fin,es),(a3,fx)):=by
 unfold l8;simp only[<-h1,<-rU,<-ah,aB,bB];rfl
end Go.ak
namespace Go.aH
open Go Go.ak
def y6{R:Nat->Prop}(kZ MP:TypeId)(b:Nat)(fin:Bool)(es:List ca):dk R:=nK λv:Value=>bk [ax b [.bool fin,v] kZ,aS e0 MP 2 v es]
end Go.aH
namespace Go.ak
open Go.aH
def oj{b3:Type}(g:b3->ca->Bool×b3):b3->List ca->Bool×b3
 | s,[]=>(true,s)
 | s,e::r=>if (g s e).1=true then oj g (g s e).2 r else(false,(g s e).2)
theorem U9{b3:Type}{g:b3->ca->Bool×b3}{s:b3}{l:List ca}{k:Nat}{e:ca}{R:Bool×b3}(h:R=oj g s (l.drop k))(ag:l[k]?=some e)(aU:(g s e).1=true):R=oj g (g s e).2 (l.drop (k+1)):=by
 rw[h,wu ag]
 conv=>lhs;unfold oj
 rw[if_pos aU]
theorem U_{b3:Type}{g:b3->ca->Bool×b3}{s:b3}{l:List ca}{k:Nat}{e:ca}{R:Bool×b3}(h:R=oj g s (l.drop k))(ag:l[k]?=some e)(aU:(g s e).1=false):R=(false,(g s e).2):=by
 rw[h,wu ag]
 conv=>lhs;unfold oj
 rw[if_neg (by simp[aU])]
theorem U'{b3:Type}{g:b3->ca->Bool×b3}{s:b3}{l:List ca}{k:Nat}{R:Bool×b3}(h:R=oj g s (l.drop k))(hk:l.length<=k):R=(true,s):=by
 rw[h,List.drop_of_length_le hk];rfl
def ie(N:List cw):Nat->Nat->Int->List Int->Bool×List Int
 | 0,_,_,st=>(false,st)
 | f+1,n,d,st=>match N[n]? with
  | none=>(false,st)
  | some x=>if st[n]?=some 2 then(true,st) else if st[n]?=some 1\/d>12\/(x.1=false/\x.2=[]) then(false,st) else
   if (oj (λst e=>ie N f e.to.toNat (d+1) st) (st.set n 1) x.2).1=true then(true,(oj (λst e=>ie N f e.to.toNat (d+1) st) (st.set n 1) x.2).2.set n 2) else(false,(oj (λst e=>ie N f e.to.toNat (d+1) st) (st.set n 1) x.2).2)
section
variable {N:List cw} {f n:Nat} {d:Int} {st:List Int} {x:cw} {y:Int}
theorem E'(ag:N[n]?=some x)(aD:st[n]?=some y)(h:y=2):ie N (f+1) n d st=(true,st):=by
 subst h;unfold ie;rw[ag];simp only;rw[aD,if_pos rfl]
theorem Iw(ag:N[n]?=some x)(aD:st[n]?=some y)(h:¬ y=2)(ah:y=1\/d>12\/(x.1=false/\x.2=[])):ie N (f+1) n d st=(false,st):=by
 unfold ie;rw[ag];simp only;rw[aD,if_neg (by simpa using h),if_pos (by simpa using ah)]
theorem MQ(ag:N[n]?=some x)(aD:st[n]?=some y)(h:¬ y=2)(ah:¬ (y=1\/d>12\/(x.1=false/\x.2=[]))){R:Bool×List Int}(fm:R=oj (λst e=>ie N f e.to.toNat (d+1) st) (st.set n 1) x.2):ie N (f+1) n d st=if R.1=true then(true,R.2.set n 2) else(false,R.2):=by
 subst fm
 conv=>lhs;unfold ie
 rw[ag];simp only;rw[aD,if_neg (by simpa using h),if_neg (by simpa using ah)]
end
theorem Va{N:List cw}{f n:Nat}{d:Int}{st jT:List Int}{x:cw}{y:Int}(ag:N[n]?=some x)(aD:st[n]?=some y)(h:¬ y=2)(ah:¬ (y=1\/d>12\/(x.1=false/\x.2=[])))(fm:oj (λst e=>ie N f e.to.toNat (d+1) st) (st.set n 1) x.2=(false,jT)):ie N (f+1) n d st=(false,jT):=by
 rw[MQ ag aD h ah fm.symm];simp
theorem Vb{N:List cw}{f n:Nat}{d:Int}{st jT:List Int}{x:cw}{y:Int}(ag:N[n]?=some x)(aD:st[n]?=some y)(h:¬ y=2)(ah:¬ (y=1\/d>12\/(x.1=false/\x.2=[])))(fm:oj (λst e=>ie N f e.to.toNat (d+1) st) (st.set n 1) x.2=(true,jT)):ie N (f+1) n d st=(true,jT.set n 2):=by
 rw[MQ ag aD h ah fm.symm];simp
theorem Vc{g:List Int->ca->Bool×List Int}{m:Nat}(aU:∀s e,s.length=m->(g s e).2.length=m):∀(l:List ca) (s:List Int),s.length=m->(oj g s l).2.length=m
 | [],s,h=>h
 | e::l,s,h=>by
  unfold oj
  split
  . exact Vc aU l _ (aU s e h)
  . exact aU s e h
theorem Ix(N:List cw):∀(f n:Nat) (d:Int) (st:List Int),(ie N f n d st).2.length=st.length
 | 0,_,_,_=>rfl
 | f+1,n,d,st=>by
  unfold ie
  split
  . rfl
  . split
    . rfl
    . split
      . rfl
      . have:=Vc (g:=λst e=>ie N f e.to.toNat (d+1) st) (m:=st.length) (λs e h=>(Ix N f _ _ s).trans h) (‹cw›.2) (st.set n 1) dg
        split
        . simp only[List.length_set];exact this
        . exact this
def sw(N:List cw):Bool:=(decide (N.length=1) && decide ((N[0]?.map (·.2.length))=some 0)) || (ie N 14 0 0 (List.replicate N.length 0)).1
theorem MR{N:List cw}{x:cw}(h:N.length=1)(ag:N[0]?=some x)(ah:x.2.length=0):sw N=true:=by
 unfold sw;rw[ag];simp[h,ah]
theorem MS{N:List cw}{b:Bool}(ab:(ie N 14 0 0 (List.replicate N.length 0)).1=b)(h:N.length≠1\/∃x,N[0]?=some x/\x.2.length≠0):sw N=b:=by
 subst ab;unfold sw;rcases h with h|⟨x,ag,ah⟩
 . simp[h]
 . rw[ag];simp[ah]
theorem y7(r:Int):(fB r).length<=4:=by
 unfold fB Utf8.encode;simp only;repeat' split
 all_goals first|(simp;done)|(simp only[ByteArray.asM,List.toArray_toList];decide)|rfl|decide|simp
theorem Vd{b3:Type}{g:b3->ca->b3}{s:b3}{l:List ca}{k:Nat}{e:ca}{R:b3}(h:R=(l.drop k).foldl g s)(ag:l[k]?=some e):R=(l.drop (k+1)).foldl g (g s e):=by
 rw[h,wu ag];rfl
theorem Ve{b3:Type}{g:b3->ca->b3}{s:b3}{l:List ca}{k:Nat}{R:b3}(h:R=(l.drop k).foldl g s)(hk:l.length<=k):R=s:=by
 rw[h,List.drop_of_length_le hk];rfl
def nM(N:List cw):Nat->Nat->aj->Int->List aj×Bool->List aj×Bool
 | 0,_,_,_,s=>(s.1,false)
 | f+1,n,a,d,s=>if s.2=false\/s.1.length>60\/d>12 then(s.1,false) else match N[n]? with
  | none=>(s.1,false)
  | some x=>x.2.foldl (λs e=>nM N f e.to.toNat (a++fB e.rune) (d+1) s) (if x.1=true then(s.1++[a],s.2) else s)
section
variable {N:List cw} {f n:Nat} {d:Int} {a:aj} {l:List aj} {ok:Bool} {x:cw}
theorem MT(h:ok=false\/l.length>60\/d>12):nM N (f+1) n a d (l,ok)=(l,false):=by
 unfold nM;rw[if_pos h]
theorem MU(h:¬ (ok=false\/l.length>60\/d>12))(ag:N[n]?=some x){R dB:List aj×Bool}(bK:dB=if x.1=true then(l++[a],ok) else(l,ok))(fm:x.2.foldl (λs e=>nM N f e.to.toNat (a++fB e.rune) (d+1) s) dB=R):nM N (f+1) n a d (l,ok)=R:=by
 conv=>lhs;unfold nM
 rw[if_neg h,ag];simp only;rw[<-fm,bK]
end
theorem Vf{g:List aj×Bool->ca->List aj×Bool}(aU:∀s e,s.1.length<=61->(g s e).1.length<=61):∀(l:List ca) (s:List aj×Bool),s.1.length<=61->(l.foldl g s).1.length<=61
 | [],s,h=>h
 | e::l,s,h=>Vf aU l _ (aU s e h)
theorem Fa(N:List cw):∀(f n:Nat) (a:aj) (d:Int) (s:List aj×Bool),s.1.length<=61->(nM N f n a d s).1.length<=61
 | 0,_,_,_,s,h=>h
 | f+1,n,a,d,s,h=>by
  unfold nM
  split
  . exact h
  . next aN =>
    split
    . exact h
    . refine Vf (λs e h=>Fa N f _ _ _ s h) _ _ ?_
      have:¬ s.1.length>60:=λh=>aN (.inr (.inl h))
      split
      . simp only[List.length_append,List.length_cons,List.length_nil];omega
      . exact h
def kk(N:List cw):List aj×Bool:=
 let r:=nM N 14 0 [] 0 ([],true)
 (r.1,r.2 && decide (r.1.length<=60))
theorem Vg{N:List cw}{l:List aj}{ok v:Bool}(h:(l,ok)=nM N 14 0 [] 0 ([],true))(cI:v=(ok && decide (l.length<=60))):kk N=(l,v):=by
 unfold kk;simp only[<-h,cI]
theorem Vh{g:List aj×Bool->ca->List aj×Bool}(aU:∀s e,(∀t∈s.1,t.length<=1000)->∀t∈(g s e).1,t.length<=1000):∀(l:List ca) (s:List aj×Bool),(∀t∈s.1,t.length<=1000)->∀t∈(l.foldl g s).1,t.length<=1000
 | [],s,h=>h
 | e::l,s,h=>Vh aU l _ (aU s e h)
theorem Vi(N:List cw):∀(f n:Nat) (a:aj) (d:Int) (s:List aj×Bool),(a.length:Int)<=4*d->(∀t∈s.1,t.length<=1000)->∀t∈(nM N f n a d s).1,t.length<=1000
 | 0,_,_,_,s,_,h=>h
 | f+1,n,a,d,s,aw,h=>by
  unfold nM
  split
  . exact h
  . next aN =>
    split
    . exact h
    . refine Vh (λs e h=>Vi N f _ _ _ s (by have:=y7 e.rune;simp only[List.length_append];omega) h) _ _ ?_
      have:¬ d>12:=λh=>aN (.inr (.inr h))
      split
      . intro t a8
        rcases List.mem_append.1 a8 with a8|a8
        . exact h t a8
        . simp only[List.mem_singleton] at a8;subst a8;omega
      . exact h
theorem afv(N:List cw):∀t∈(kk N).1,t.length<=1000:=Vi N 14 0 [] 0 ([],true) dg (λt a8=>by cases a8)
theorem afw(N:List cw):wa (kk N).1:=λt a8=>by have:=afv N t a8;omega
theorem afx(N:List cw):(kk N).1.length<=61:=Fa N 14 0 [] 0 ([],true) dg
def xH(N:List cw):Bool:=N.all λx=>x.2.all λe=>decide (1<=e.to/\e.to<(N.length:Int))
def CS(N:List cw):Option (List aj):=
 if xH N=true/\N.length≠0/\N.length<=721/\sw N=true/\(kk N).2=true/\e6 (kk N).1=0/\h7 (kk N).1=N then some (kk N).1 else none
def lz(N:List cw):List cw:=match CS N with
 | none=>[]
 | some l=>h7 l
theorem xI{N:List cw}(h:¬ (xH N=true/\N.length≠0/\N.length<=721/\sw N=true/\(kk N).2=true/\e6 (kk N).1=0/\h7 (kk N).1=N)):lz N=[]:=by
 unfold lz CS;rw[if_neg h]
theorem Vj{N:List cw}(h:xH N=true/\N.length≠0/\N.length<=721/\sw N=true/\(kk N).2=true/\e6 (kk N).1=0/\h7 (kk N).1=N):lz N=h7 (kk N).1:=by
 unfold lz CS;rw[if_pos h]
theorem Iy{N:List cw}:xH N=true↔∀x∈N,∀e∈x.2,1<=e.to/\e.to<(N.length:Int):=by
 unfold xH;simp
theorem y8{N:List cw}{k i:Nat}{x:cw}{e:ca}(ag:N[k]?=some x)(he:x.2[i]?=some e)(h:¬ (1<=e.to/\e.to<(N.length:Int))):¬ xH N=true:=λa'=>h (Iy.1 a' x (List.mem_of_getElem? ag) e (List.mem_of_getElem? he))
theorem Iz{N M:List cw}(h:N.length≠M.length):decide (N=M)=false:=decide_eq_false λe=>h (by rw[e])
theorem Fb{N M:List cw}{k:Nat}{a b:cw}(aw:N[k]?=some a)(ab:M[k]?=some b)(h:a≠b):decide (N=M)=false:=decide_eq_false λe=>h (by subst e;exact Option.some.inj (aw.symm.trans ab))
theorem IA{N M:List cw}{k i:Nat}{a b:cw}{x y:ca}(aw:N[k]?=some a)(ab:M[k]?=some b)(ag:a.2[i]?=some x)(aD:b.2[i]?=some y)(h:x≠y):decide (N=M)=false:=Fb aw ab λe=>h (by subst e;exact Option.some.inj (ag.symm.trans aD))
theorem Vk{α:Type}{N M:List α}{k:Nat}{a:α}(h:N.take k=M.take k)(aw:N[k]?=some a)(ab:M[k]?=some a):N.take (k+1)=M.take (k+1):=by
 rw[List.take_add_one,List.take_add_one,h,aw,ab]
theorem Vl{α:Type}{N M:List α}{k:Nat}(h:N.take k=M.take k)(h1:N.length<=k)(ah:M.length<=k):N=M:=by
 rwa[List.take_of_length_le h1,List.take_of_length_le ah] at h
theorem afy{a b:cw}(h1:a.1=b.1)(ah:a.2=b.2):a=b:=Prod.ext h1 ah
end Go.ak
namespace Go.aH
open Go Go.ak
theorem MV{w:World}{ez g:Nat}{e afz:TypeId}{v:Value}{bn:List c7}{N:List cw}{G:Nat->Prop}(ab:dv w ez [v] e)(aw:Acc ft afz 2 w g v bn)(aU:g<=w.heap.size)(a':jZ w G bn N)(cb:∀b,G b->b<w.heap.size):
 Row w ez 0 [v]/\ez<w.heap.size/\aq ft w (λb=>b<w.heap.size) v bn/\jZ w (λb=>b<w.heap.size) bn N:=
 ⟨ab.row,ab.lt,aw.ch.mono λb h=>Nat.lt_of_lt_of_le h.2 aU,a'.mono cb⟩
theorem afA{w:World}{c0 ar:Nat}{v:Value}{N:List cw}(h:ht 0 w c0 ar v N)(ho:N≠[])(hD:ar<=w.heap.size):
 ∃b gJ bn,v=ptr b 0/\Row w b 0 [gJ]/\b<w.heap.size/\aq ft w (λb=>b<w.heap.size) gJ bn/\jZ w (λb=>b<w.heap.size) bn N:=by
 rcases h with ⟨_,h⟩|⟨b,gJ,bn,h1,ah,aB,bE,c6⟩
 . exact absurd h ho
 . exact⟨b,gJ,bn,h1,aB.2.2,Nat.lt_of_lt_of_le aB.2.1 hD,bE.mono λb q=>Nat.lt_of_lt_of_le q.2 hD,c6.mono λb q=>Nat.lt_of_lt_of_le q.2 hD⟩
theorem au.Vm{R:Nat->Prop}{w0 w:World}{L:List (dk R)}{i:Nat}{v:Value}{N:List cw}(h:au R (λ_=>False) w0 w L)(ar:L[i]?=some (wz v N))(ho:N≠[]):∃c0 up,ht 0 w c0 up v N/\w0.heap.size<=c0/\up<=w.heap.size:=by
 obtain⟨F,⟨c0,up,h1,ah,bE⟩,aB,_⟩:=h.act ar;refine⟨c0,up,h1,?_,ah⟩;rcases h1 with ⟨_,h1⟩|⟨b,gJ,bn,bC,cy,⟨dE,hg,jw⟩,p9,pb⟩
 . exact absurd h1 ho
 . exact(aB c0 (bE c0 (Nat.le_refl _) aa)).1.1.resolve_left id
end Go.aH
namespace Go.aH
open Go Go.ak
def Vn{R:Nat->Prop}(afB IB h_ afC rO MW:Nat)(l9 e7 iF h0 ez:Nat)(s:List aj×Bool):dk R:=bk [ax l9 [.bool s.2] afB,qw IB rO 1 cC e7 s.1,ax iF [ptr ez 0] h_,ax h0 [.func (.func MW) #[] #[ptr l9 0,ptr e7 0,ptr iF 0,ptr h0 0]] afC]
def Vo{R:Nat->Prop}(t1 t3 pc t4 MW:Nat)(aK bz bL ez:Nat)(nN:Value)(st:List Int):dk R:=bk [ax aK [ptr ez 0] t1,ax bz [nN] t3,aS aH.encI pc 1 nN st,ax bL [.func (.func MW) #[] #[ptr aK 0,ptr bz 0,ptr bL 0]] t4]
end Go.aH
namespace Go.aH
open Go
theorem A1{P:Program}{f:FuncId}{r:List Value}{w:World}{K:Ending->World->Prop}{n:Nat}{m:Int}(h:Calls P f (.int .i64 (n:Int)::r).toArray w K)(aN:m=(n:Int)):Calls P f (.int .i64 m::r).toArray w K:=by subst aN;exact h
end Go.aH
namespace Go.ak
open Go.aH
def rV(b:List UInt8)(n:Nat)(dB:Int×Bool)(i:Nat)(N:List cw)(s:Int×Bool):Prop:=lb b n dB=(N++(lb b (n-i) s).1,(lb b (n-i) s).2)
theorem rV.start(b:List UInt8)(n:Nat)(s:Int×Bool):rV b n s 0 [] s:=by unfold rV;simp
theorem rV.step{b:List UInt8}{n i:Nat}{dB:Int×Bool}{a:Int}{N:List cw}{e:cw}{jT:Int×Bool}(h:rV b n dB i N (a,false))(ar:i<n)(he:(e,jT)=l8 b (a,false)):rV b n dB (i+1) (N++[e]) jT:=by
 unfold rV at *;rw[h];obtain⟨m,hm⟩:∃m,n-i=m+1:=⟨n-i-1,by omega⟩;rw[hm,show n-(i+1)=m from by omega]
 conv=>lhs;unfold lb
 rw[if_neg dg,<-he];simp
theorem rV.bad{b:List UInt8}{n i:Nat}{dB:Int×Bool}{a:Int}{N:List cw}(h:rV b n dB i N (a,true)):lb b n dB=(N,(a,true)):=by
 unfold rV at h;rw[h]
 cases n-i with
 | zero=>simp[lb]
 | succ m=>unfold lb;simp
theorem rV.fin{b:List UInt8}{n i:Nat}{dB:Int×Bool}{N:List cw}{s:Int×Bool}(h:rV b n dB i N s)(ar:n<=i):lb b n dB=(N,s):=by
 unfold rV at h;rw[show n-i=0 from by omega] at h;rw[h];simp[lb]
theorem Vp(b:List UInt8):∀(n:Nat) (s:Int×Bool),(kr b n s).1.length<=n
 | 0,s=>by simp[kr]
 | n+1,s=>by
  unfold kr
  split
  . simp
  . simp only[List.length_cons];have:=Vp b n (rT b s).2;omega
theorem afD(b:List UInt8)(s:Int×Bool):(l8 b s).1.2.length<=65535:=by
 unfold l8;simp only;generalize cO:ed b 2 ((ed b 1 s).2.1,(ed b 1 s).2.2 || decide ((ed b 1 s).1>1))=z;obtain⟨afE,z2,z3⟩:=z;have ah:=A0 cO aa;have h1:=Vp b afE.toNat (z2,z3);simp only;omega
theorem IC{b:List UInt8}{size:Nat}{s:Int×Bool}(aT:size<=4)(aw:0<=s.1/\s.1<=b.length):0<=(ed b size s).2.1/\(ed b size s).2.1<=b.length:=by
 have:=q9 (a:=s.1) (q:=s.2) aT aw (f:=(ed b size s).1) (a2:=(ed b size s).2.1) (q2:=(ed b size s).2.2) rfl;omega
theorem afF{b:List UInt8}{s:Int×Bool}(aw:0<=s.1/\s.1<=b.length):0<=(rT b s).2.1/\(rT b s).2.1<=b.length:=by
 unfold rT;exact IC aa (IC aa aw)
theorem Vq{b:List UInt8}:∀(n:Nat) (s:Int×Bool),0<=s.1/\s.1<=b.length->0<=(kr b n s).2.1/\(kr b n s).2.1<=b.length
 | 0,s,aw=>aw
 | n+1,s,aw=>by
  unfold kr
  split
  . exact aw
  . exact Vq n _ (afF aw)
theorem afG{b:List UInt8}{a a2:Int}{q q2:Bool}{x:cw}(aw:0<=a/\a<=b.length)(h:(x,(a2,q2))=l8 b (a,q)):0<=a2/\a2<=b.length:=by
 have:(l8 b (a,q)).2.1=a2:=by rw[<-h]
 rw[<-this];unfold l8;exact Vq _ _ (IC (s:=(_,_)) aa (IC (s:=(_,_)) aa aw))
def iq(b:List UInt8):List cw×Int:=
 if b.length<4 then([],9) else
 if ¬ j8 b ((b.length:Int)-4) 4=(kD (b.take (b.length-4)):Int) then([],9) else
 if b.length-4<4\/¬ b.take 4=[73,78,75,49] then([],8) else
 if (lb (b.take (b.length-4)) (ed (b.take (b.length-4)) 2 (4,false)).1.toNat (ed (b.take (b.length-4)) 2 (4,false)).2).2.2=true\/¬ (lb (b.take (b.length-4)) (ed (b.take (b.length-4)) 2 (4,false)).1.toNat (ed (b.take (b.length-4)) 2 (4,false)).2).2.1=(b.length:Int)-4 then([],8) else
 if lz (lb (b.take (b.length-4)) (ed (b.take (b.length-4)) 2 (4,false)).1.toNat (ed (b.take (b.length-4)) 2 (4,false)).2).1=[] then([],8) else
 (lz (lb (b.take (b.length-4)) (ed (b.take (b.length-4)) 2 (4,false)).1.toNat (ed (b.take (b.length-4)) 2 (4,false)).2).1,0)
section
variable {b:List UInt8}
theorem ID(h:b.length<4):iq b=([],9):=by unfold iq;rw[if_pos h]
theorem CT(h1:¬ b.length<4)(ah:¬ j8 b ((b.length:Int)-4) 4=(kD (b.take (b.length-4)):Int)):iq b=([],9):=by unfold iq;rw[if_neg h1,if_pos ah]
theorem MX(h1:¬ b.length<4)(ah:j8 b ((b.length:Int)-4) 4=(kD (b.take (b.length-4)):Int))(aB:b.length-4<4\/¬ b.take 4=[73,78,75,49]):iq b=([],8):=by unfold iq;rw[if_neg h1,if_neg (λk=>k ah),if_pos aB]
variable {N:List cw} {a c a0:Int} {q q0:Bool}
theorem IE(h1:¬ b.length<4)(ah:j8 b ((b.length:Int)-4) 4=(kD (b.take (b.length-4)):Int))(aB:¬ (b.length-4<4\/¬ b.take 4=[73,78,75,49]))(bE:(c,(a0,q0))=ed (b.take (b.length-4)) 2 (4,false))(c6:lb (b.take (b.length-4)) c.toNat (a0,q0)=(N,(a,q)))(eZ:q=true\/¬ a=(b.length:Int)-4):iq b=([],8):=by
 unfold iq;rw[if_neg h1,if_neg (λk=>k ah),if_neg aB,<-bE];simp only[c6];rw[if_pos eZ]
theorem Vr(h1:¬ b.length<4)(ah:j8 b ((b.length:Int)-4) 4=(kD (b.take (b.length-4)):Int))(aB:¬ (b.length-4<4\/¬ b.take 4=[73,78,75,49]))(bE:(c,(a0,q0))=ed (b.take (b.length-4)) 2 (4,false))(c6:lb (b.take (b.length-4)) c.toNat (a0,q0)=(N,(a,q)))(eZ:¬ (q=true\/¬ a=(b.length:Int)-4))(kB:lz N=[]):iq b=([],8):=by
 unfold iq;rw[if_neg h1,if_neg (λk=>k ah),if_neg aB,<-bE];simp only[c6];rw[if_neg eZ,if_pos kB]
theorem MY(h1:¬ b.length<4)(ah:j8 b ((b.length:Int)-4) 4=(kD (b.take (b.length-4)):Int))(aB:¬ (b.length-4<4\/¬ b.take 4=[73,78,75,49]))(bE:(c,(a0,q0))=ed (b.take (b.length-4)) 2 (4,false))(c6:lb (b.take (b.length-4)) c.toNat (a0,q0)=(N,(a,q)))(eZ:¬ (q=true\/¬ a=(b.length:Int)-4))(kB:lz N≠[]):iq b=(lz N,0):=by
 unfold iq;rw[if_neg h1,if_neg (λk=>k ah),if_neg aB,<-bE];simp only[c6];rw[if_neg eZ,if_neg kB]
end
end Go.ak
namespace Go.aH
open Go Go.ak
def A2{R:Nat->Prop}(bn:List c7)(N:List cw):dk R:=⟨λF w=>jZ w F bn N,λh hm bs _=>h.keep hm bs⟩
theorem afH{R F:Nat->Prop}{w:World}{e:TypeId}{bn:List c7}{N:List cw}{x:c7}{n:cw}{v:Value}{es:List ca}(cI:v=x.e.val)(bB:x.fin=n.1)(aN:es=n.2)(h:(bk (R:=R) [A2 bn N,aS e0 e 2 v es]).p F w):(A2 (R:=R) (bn++[x]) (N++[n])).p F w:=by
 obtain⟨fq,bu,h1,ah,aB,bE⟩:=u_ h;exact cZ.app (jZ.mono h1 aB) (.cons ⟨bB,cI▸aN▸(th ah).mono bE⟩ .nil)
end Go.aH
namespace Go.ak
open Go.aH
theorem wrap_small{x:Int}(bK:0<=x)(h:x<4294967296):IntKind.u64.wrap x=x:=by
 have:(IntKind.u64.wrap x)=x % 18446744073709551616:=by unfold IntKind.wrap;rfl
 rw[this];omega
theorem Vs{x:Int}(bK:0<=x)(h:x<256):fk x 1=[gC x]:=by
 unfold fk;rw[wrap_small bK aa];simp[List.range_succ]
theorem Vt{x:Int}(bK:0<=x)(h:x<65536):fk x 2=[gC (x / 256),gC x]:=by
 unfold fk;rw[wrap_small bK aa];simp[List.range_succ]
theorem Vu{x:Int}(bK:0<=x)(h:x<4294967296):fk x 4=[gC (x / 16777216),gC (x / 65536),gC (x / 256),gC x]:=by
 unfold fk;rw[wrap_small bK aa];simp[List.range_succ]
theorem afI{x:Int}(bK:0<=x)(h:x<256):(kX (fk x 1):Int)=x:=by
 rw[Vs bK h];have h1:=u7 x;simp only[kX,List.foldl_cons,List.foldl_nil];omega
theorem afJ{x:Int}(bK:0<=x)(h:x<65536):(kX (fk x 2):Int)=x:=by
 rw[Vt bK h];have h1:=u7 x;have ah:=u7 (x / 256);simp only[kX,List.foldl_cons,List.foldl_nil];omega
theorem afK{x:Int}(bK:0<=x)(h:x<4294967296):(kX (fk x 4):Int)=x:=by
 rw[Vu bK h];have h1:=u7 x;have ah:=u7 (x / 256);have aB:=u7 (x / 65536);have bE:=u7 (x / 16777216);simp only[kX,List.foldl_cons,List.foldl_nil];omega
theorem A3{n:Int}{b:UInt8}(h:n % 256=(b.toNat:Int)):gC n=b:=by
 apply UInt8.toNat_inj.1;have:=u7 n;omega
theorem afL{l:List UInt8}(h:l.length=1):fk (kX l) 1=l:=by
 match l,h with
 | [a],_ =>
  have aw:=a.toNat_lt;have aN:(kX [a]:Int)=a.toNat:=(by simp only[kX,List.foldl_cons,List.foldl_nil];omega);rw[Vs aa aa,aN,A3 (b:=a) aa]
theorem afM{l:List UInt8}(h:l.length=2):fk (kX l) 2=l:=by
 match l,h with
 | [a,b],_ =>
  have aw:=a.toNat_lt;have ab:=b.toNat_lt;have aN:(kX [a,b]:Int)=a.toNat*256+b.toNat:=(by simp only[kX,List.foldl_cons,List.foldl_nil];omega);rw[Vt aa aa,aN,A3 (b:=a) aa,A3 (b:=b) aa]
theorem afN{l:List UInt8}(h:l.length=4):fk (kX l) 4=l:=by
 match l,h with
 | [a,b,c,d],_ =>
  have aw:=a.toNat_lt;have ab:=b.toNat_lt;have ao:=c.toNat_lt;have hd:=d.toNat_lt;have aN:(kX [a,b,c,d]:Int)=((a.toNat*256+b.toNat)*256+c.toNat)*256+d.toNat:=(by simp only[kX,List.foldl_cons,List.foldl_nil];omega);rw[Vu aa aa,aN,A3 (b:=a) aa,A3 (b:=b) aa,A3 (b:=c) aa,A3 (b:=d) aa]
def xJ(n:Nat):Prop:=n=1\/n=2\/n=4
theorem Vv{x:Int}{n:Nat}(aN:xJ n)(bK:0<=x)(h:x<256 ^ n):(kX (fk x n):Int)=x:=by
 rcases aN with rfl|rfl|rfl
 . exact afI bK aa
 . exact afJ bK aa
 . exact afK bK aa
theorem MZ{l:List UInt8}{n:Nat}(aN:xJ n)(h:l.length=n):fk (kX l) n=l:=by
 rcases aN with rfl|rfl|rfl
 . exact afL h
 . exact afM h
 . exact afN h
theorem ud{b p r:List UInt8}{a:Nat}(h:b.drop a=p++r):b.drop (a+p.length)=r:=by
 rw[<-List.drop_drop,h];simp
theorem afO{b p r:List UInt8}{a:Nat}(h:b.drop a=p++r)(hp:p≠[]):a+p.length<=b.length:=by
 have h1:=congrArg List.length h;rw[List.length_drop,List.length_append] at h1;have:0<p.length:=List.length_pos_iff.2 hp
 omega
theorem vc{b r:List UInt8}{a n:Nat}{x:Int}{q:Bool}(h:b.drop a=fk x n++r)(aN:xJ n)(bK:0<=x)(ag:x<256 ^ n):ed b n ((a:Int),q)=(x,(((a+n:Nat):Int),q)):=by
 have bj:=ib x n
 have h1:a+n<=b.length:=by
  have:=afO h (by intro e;rw[e] at bj;unfold xJ at aN;simp at bj;omega)
  rwa[bj] at this
 have bX:mI b (a:Int) (n:Int)=true:=(by unfold mI;unfold xJ at aN;exact decide_eq_true ⟨by omega,by omega,by omega,by omega,by omega⟩);rw[vb bX]
 have cI:j8 b (a:Int) (n:Int)=x:=by
  unfold j8
  rw[if_pos bX]
  simp only[Int.toNat_natCast]
  rw[h,List.take_left' bj]
  exact Vv aN bK ag
 rw[cI];rfl
def y9(e:ca):Prop:=0<=e.rune/\e.rune<=1114111/\0<=e.to/\e.to<65536
theorem wrap32{x:Int}(bK:0<=x)(h:x<=1114111):IntKind.i32.wrap x=x:=by
 have hm:x % 4294967296=x:=(by omega);have ab:(2:Int) ^ IntKind.i32.bits=4294967296:=rfl;have aT:(2:Int) ^ (IntKind.i32.bits-1)=2147483648:=rfl;unfold IntKind.wrap;simp only[ab,aT,hm];rw[if_neg];simp only[Bool.and_eq_true,decide_eq_true_eq];omega
theorem M0(e:ca):(l7 e).length=6:=by unfold l7;simp[ib]
theorem afP{b r:List UInt8}{a:Nat}{e:ca}(h:b.drop a=l7 e++r)(he:y9 e):rT b ((a:Int),false)=(e,(((a+6:Nat):Int),false)):=by
 obtain⟨h1,ah,aB,bE⟩:=he;unfold l7 at h;rw[List.append_assoc] at h;have bC:=vc (q:=false) h (.inr (.inr rfl)) h1 aa;have cy:=ud h;rw[ib] at cy;have dE:=vc (q:=false) cy (.inr (.inl rfl)) aB aa;unfold rT;simp only[bC];rw[show(false || decide (e.rune>1114111))=false from by simp;omega];simp only[dE];rw[wrap32 h1 ah]
theorem Vw{b:List UInt8}:∀(es:List ca) (a:Nat) (r:List UInt8),b.drop a=es.flatMap l7++r->(∀e∈es,y9 e)->kr b es.length ((a:Int),false)=(es,(((a+6*es.length:Nat):Int),false))
 | [],a,r,h,_=>by simp[kr]
 | e::es,a,r,h,he=>by
  rw[List.flatMap_cons,List.append_assoc] at h
  have bC:=afP h (he e dg)
  have cy:=ud h
  rw[M0] at cy
  have dE:=Vw es (a+6) r cy (λe h=>he e (by simp[h]))
  rw[List.length_cons]
  conv=>lhs;unfold kr
  rw[if_neg dg,bC]
  simp only[dE]
  rw[show a+6+6*es.length=a+6*(es.length+1) from by omega]
def xK(x:cw):Prop:=x.2.length<65536/\∀e∈x.2,y9 e
def ue(x:cw):Nat:=3+6*x.2.length
theorem Vx:∀es:List ca,(es.flatMap l7).length=6*es.length
 | []=>rfl
 | e::es=>by rw[List.flatMap_cons,List.length_append,Vx es,M0,List.length_cons];omega
theorem M1(x:cw):(kE x).length=ue x:=by unfold kE ue;simp only[List.length_append,ib,Vx]
theorem afQ{b r:List UInt8}{a:Nat}{x:cw}(h:b.drop a=kE x++r)(ag:xK x):l8 b ((a:Int),false)=(x,(((a+ue x:Nat):Int),false)):=by
 obtain⟨h1,ah⟩:=ag;unfold kE at h;rw[List.append_assoc,List.append_assoc] at h;have ab:(0:Int)<=(if x.1=true then 1 else 0)/\(if x.1=true then 1 else 0:Int)<=1:=(by split<;>omega);have bC:=vc (q:=false) h (.inl rfl) ab.1 aa;have cy:=ud h;rw[ib] at cy;have dE:=vc (q:=false) cy (.inr (.inl rfl)) aa aa;have hg:=ud cy;rw[ib] at hg;have jw:=Vw x.2 _ _ hg ah;unfold l8;simp only[bC];rw[show(false || decide ((if x.1=true then 1 else 0:Int)>1))=false from by rw[Bool.false_or];exact decide_eq_false aa];simp only[dE,Int.toNat_natCast,jw];rw[show a+1+2+6*x.2.length=a+ue x from by unfold ue;omega];have:decide ((if x.1=true then 1 else 0:Int)=1)=x.1:=by cases x.1<;>decide
 rw[this]
def sx(N:List cw):Nat:=(N.map ue).sum
theorem Vy{b:List UInt8}:∀(N:List cw) (a:Nat) (r:List UInt8),b.drop a=N.flatMap kE++r->(∀x∈N,xK x)->lb b N.length ((a:Int),false)=(N,(((a+sx N:Nat):Int),false))
 | [],a,r,h,_=>by simp[lb,sx]
 | x::N,a,r,h,ag=>by
  rw[List.flatMap_cons,List.append_assoc] at h
  have bC:=afQ h (ag x dg)
  have cy:=ud h
  rw[M1] at cy
  have dE:=Vy N (a+ue x) r cy (λe h=>ag e (by simp[h]))
  rw[List.length_cons]
  conv=>lhs;unfold lb
  rw[if_neg dg,bC]
  simp only[dE]
  rw[show a+ue x+sx N=a+sx (x::N) from by unfold sx;simp only[List.map_cons,List.sum_cons];omega]
theorem Vz:∀N:List cw,(N.flatMap kE).length=sx N
 | []=>rfl
 | x::N=>by rw[List.flatMap_cons,List.length_append,Vz N,M1];unfold sx;simp only[List.map_cons,List.sum_cons]
theorem afR(N:List cw):(hG N).length=6+sx N:=by
 unfold hG;simp only[List.length_append,ib,Vz,List.length_cons,List.length_nil]
theorem afS{N:List cw}(bj:N.length<65536)(ho:∀x∈N,xK x)(hm:lz N≠[]):iq (kY N)=(lz N,0):=by
 have ab:(kY N).length=(hG N).length+4:=(by unfold kY xE;rw[List.length_append,ib]);have kt:=afR N;have a8:(kY N).take ((kY N).length-4)=hG N:=(by rw[ab];unfold kY xE;simp);have aT:=CL 0 (hG N)
 have ah:j8 (kY N) (((kY N).length:Int)-4) 4=(kD ((kY N).take ((kY N).length-4)):Int):=by
  rw[a8]
  have hd:(kY N).drop (hG N).length=fk (kD (hG N)) 4++[]:=by unfold kY xE;simp
  have:=vc (q:=false) hd (.inr (.inr rfl)) aa (by change (AV 0 (hG N):Int)<_;omega)
  rw[show((kY N).length:Int)-4=((hG N).length:Int) from by omega]
  have bX:mI (kY N) ((hG N).length:Int) 4=true:=by unfold mI;exact decide_eq_true ⟨by omega,by omega,by omega,by omega,by omega⟩
  rw[show(4:Nat)=4 from rfl,vb bX] at this
  exact congrArg Prod.fst this
 have aB:¬ ((kY N).length-4<4\/¬ (kY N).take 4=[73,78,75,49]):=by
  intro h
  rcases h with h|h
  . omega
  . exact h (by unfold kY xE hG;simp)
 have Fc:(hG N).drop 4=fk N.length 2++N.flatMap kE:=(by unfold hG;simp);have bE:=vc (q:=false) Fc (.inr (.inl rfl)) aa aa;have Fe:=ud Fc;rw[ib] at Fe;have c6:=Vy N 6 [] (by rw[Fe];simp) ho;have fS:ed ((kY N).take ((kY N).length-4)) 2 (4,false)=((N.length:Int),(((6:Nat):Int),false)):=(by rw[a8];exact bE);refine MY (c:=N.length) (a0:=((6:Nat):Int)) (q0:=false) (a:=((6+sx N:Nat):Int)) (q:=false) aa ah aB fS.symm (by rw[a8,Int.toNat_natCast];exact c6) (λh=>?_) hm;rcases h with h|h
 . cases h
 . exact h aa
end Go.ak
namespace Go.ak
open Go.aH
def mq:List aj->Nat
 | []=>0
 | t::r=>max (hc t).length (mq r)
theorem VA:∀{l:List aj} {t:aj},t∈l->(hc t).length<=mq l
 | a::r,t,h=>by
  unfold mq
  rcases List.mem_cons.1 h with rfl|h
  . omega
  . have:=VA h;omega
theorem M3:∀{l:List aj},l≠[]->∃t∈l,(hc t).length=mq l
 | [a],_=>⟨a,by simp,by unfold mq mq;omega⟩
 | a::b::r,_=>by
  obtain⟨t,h1,ah⟩:=M3 (l:=b::r) dg
  have e:mq (a::b::r)=max (hc a).length (mq (b::r)):=by rw[mq]
  rcases Nat.le_total (hc a).length (mq (b::r)) with h|h
  . exact⟨t,by simp[List.mem_cons.1 h1],by rw[ah,e];omega⟩
  . exact⟨a,by simp,by rw[e];omega⟩
theorem VB{l:List aj}{n:Nat}(h:Deep n l):mq l<=n:=by
 by_cases bj:l=[]
 . subst bj;exact Nat.zero_le _
 . obtain⟨t,h1,ah⟩:=M3 bj;rw[<-ah];exact h t h1
theorem CU{r:List aj}(a':gu r){g:Nat×List aj}(aU:g∈gZ (fE r)):kO g.1/\g.2≠[]/\gu g.2/\∀t∈g.2,ei g.1++t∈r:=by
 have hd:=u3 a';have ok:=xz _ _ (Nat.le_refl _) hd.1 hd.2;have h1:=ok.fO g aU;refine⟨h1.1,h1.2.1,h1.2.2,λt a8=>AI ?_⟩;rw[<-ok.all];exact List.mem_flatMap.2 ⟨g,aU,List.mem_map.2 ⟨t,a8,rfl⟩⟩
theorem Ff{r:List aj}(a':gu r){g:Nat×List aj}(aU:g∈gZ (fE r)):mq g.2+1<=mq r:=by
 obtain⟨h1,ah,_,bE⟩:=CU a' aU;obtain⟨t,bC,cy⟩:=M3 ah;have:=VA (bE t bC);rw[wg h1] at this;simp only[List.length_cons] at this;omega
theorem VC{P:List aj->Prop}{add:c5->List aj->c5×Nat}:∀(gs:List (Nat×List aj)) (s:c5),(∀g∈gs,∀s,(∀y∈s,P y.1)->∀y∈(add s g.2).1,P y.1)->(∀y∈s,P y.1)->∀y∈(lL add s gs).1,P y.1
 | [],s,_,aT=>aT
 | g::gs,s,h,aT=>by
  show ∀y∈(lL add (add s g.2).1 gs).1,_
  exact VC gs _ (λfv s_=>h fv (by simp[s_])) (h g dg s aT)
theorem VD{P:List aj->Prop}(VE:∀r,P r->∀g∈gZ (fE r),P g.2):∀(f:Nat) (s:c5) (aI:List aj),(∀y∈s,P y.1)->P aI->∀y∈(e1 f s aI).1,P y.1
 | 0,s,aI,aT,_=>aT
 | f+1,s,aI,aT,a'=>by
  unfold e1
  cases ar:s.findIdx? λx=>x.1==aI with
  | some i=>exact aT
  | none =>
   have h1:=VC (add:=e1 f) (P:=P) (gZ (fE aI)) (s++[(aI,[])]) (λg iQ jT Aq=>VD VE f jT g.2 Aq (VE _ a' g iQ)) (λy aD=>by
    rcases List.mem_append.1 aD with aD|aD
    . exact aT y aD
    . simp only[List.mem_singleton] at aD;subst aD;exact a')
   intro y aD
   rcases List.mem_or_eq_of_mem_set aD with aD|rfl
   . exact h1 y aD
   . exact a'
theorem afT{words:List aj}(h:e6 words=0):∀y∈s9 words,mq y.1<=mq words:=by
 have aU:=ta h;have:=VD (P:=λr=>gu r/\mq r<=mq words) (λr a' g iQ=>⟨(CU a'.1 iQ).2.2.1,by have:=Ff a'.1 iQ;omega⟩) 13 [] words dg ⟨aU.1,Nat.le_refl _⟩;exact λy aD=>(this y aD).2
def qA(l:List aj):Nat:=(l.map λt=>(hc t).length).sum
theorem afU(a b:List aj):qA (a++b)=qA a+qA b:=by unfold qA;simp
theorem VF{c:Nat}(ao:kO c):∀l:List aj,qA (l.map (ei c++·))=l.length+qA l
 | []=>rfl
 | t::l=>by
  have:=VF ao l
  unfold qA at *
  simp only[List.map_cons,List.sum_cons,List.length_cons] at *
  rw[wg ao,this]
  simp only[List.length_cons];omega
def CV(gs:List (Nat×List aj)):Nat:=(gs.map λg=>qA g.2+1).sum
theorem VG:∀(gs:List (Nat×List aj)),(∀g∈gs,kO g.1/\g.2≠[])->CV gs<=qA (gs.flatMap λg=>g.2.map (ei g.1++·))
 | [],_=>by simp[CV]
 | g::gs,h=>by
  have h1:=VG gs (λfv aU=>h fv (by simp[aU]))
  have ah:=h g dg
  have aB:=List.length_pos_iff.2 ah.2
  rw[List.flatMap_cons,afU,VF ah.1]
  unfold CV at *
  simp only[List.map_cons,List.sum_cons];omega
theorem afV(l:List aj):qA (fE l)<=qA l:=by
 cases l with
 | nil=>exact Nat.le_refl _
 | cons a r=>cases a<;>simp[fE,qA]
theorem VH{add:c5->List aj->c5×Nat}:∀(gs:List (Nat×List aj)) (s:c5),(∀g∈gs,∀s,(add s g.2).1.length<=s.length+1+qA g.2)->(lL add s gs).1.length<=s.length+CV gs
 | [],s,_=>by simp[lL,CV]
 | g::gs,s,h=>by
  have h1:=h g dg s
  have ah:=VH gs (add s g.2).1 (λfv s_=>h fv (by simp[s_]))
  show(lL add (add s g.2).1 gs).1.length<=_
  unfold CV at ah ⊢
  simp only[List.map_cons,List.sum_cons]
  omega
theorem VI:∀(f:Nat) (s:c5) (aI:List aj),gu aI->(e1 f s aI).1.length<=s.length+1+qA aI
 | 0,s,aI,_=>by simp[e1];omega
 | f+1,s,aI,aU=>by
  unfold e1
  cases ar:s.findIdx? λx=>x.1==aI with
  | some i=>simp;omega
  | none =>
   simp only[List.length_set]
   have hd:=u3 aU
   have ok:=xz _ _ (Nat.le_refl _) hd.1 hd.2
   have h1:=VH (add:=e1 f) (gZ (fE aI)) (s++[(aI,[])]) (λg iQ jT=>VI f jT g.2 (ok.fO g iQ).2.2)
   have ah:=VG (gZ (fE aI)) (λg iQ=>⟨(ok.fO g iQ).1,(ok.fO g iQ).2.1⟩)
   rw[ok.all] at ah
   have aB:=afV aI
   simp only[List.length_append,List.length_cons,List.length_nil] at h1
   omega
theorem afW{l:List aj}{m:Nat}(h:∀x∈l,(hc x).length<=m):qA l<=l.length*m:=by
 induction l with
 | nil=>simp[qA]
 | cons a l b' =>
  have h1:=h a dg;have ah:=b' λx ag=>h x (by simp[ag])
  unfold qA at *;rw[List.map_cons,List.sum_cons,List.length_cons,Nat.add_mul];omega
theorem afX{words:List aj}(h:e6 words=0):(h7 words).length<=721:=by
 rw[t' h,u6];unfold o';split
 . simp
 . obtain⟨h1,ah,_⟩:=wh h;have aB:=VI 13 [] words (ta h).1;have bE:=afW (l:=words) (m:=12) λx ag=>(L9 (ah x ag)).2.2
   unfold s9;simp only[List.length_nil] at aB;omega
theorem M4{α β:Type}{R:α->β->Prop}{a:List α}{b:List β}(h:cZ R a b):∀y∈b,∃x∈a,R x y:=by
 intro y aD;obtain⟨k,hk⟩:=List.mem_iff_getElem?.1 aD;have aU:=cZ.get h;have hL:=(List.getElem?_eq_some_iff.1 hk).1;have ag:a[k]?=some (a[k]'(by rw[aU.1];exact hL)):=(by simp);exact⟨_,List.mem_of_getElem? ag,aU.2 k _ _ ag hk⟩
theorem VJ{g:List Int->ca->Bool×List Int}{Inv:List Int->Prop}:∀(l:List ca) (s:List Int),Inv s->(∀e∈l,∀s,Inv s->(g s e).1=true/\Inv (g s e).2)->(oj g s l).1=true/\Inv (oj g s l).2
 | [],s,h,_=>⟨rfl,h⟩
 | e::l,s,h,aU=>by
  obtain⟨h1,ah⟩:=aU e dg s h
  unfold oj
  rw[if_pos h1]
  exact VJ l _ ah λnD he=>aU nD (by simp[he])
section
variable {s:c5}
theorem IF{n:Nat}{y:List aj×List ca}(h:s[n]?=some y):(fT s)[n]?=some (jY y.1,y.2):=by simp[fT,h]
theorem afY(l_:∀y∈s,o_ s y/\gu y.1/\y.1≠[]):∀(f n:Nat) (d:Int) (st:List Int) (y:List aj×List ca),s[n]?=some y->0<=d->d+mq y.1<=12->13<=d+f->st.length=s.length ->
 (∀(m:Nat) (z:List aj×List ca),st[m]?=some 1->s[m]?=some z->mq y.1<mq z.1) ->
 (ie (fT s) (f+1) n d st).1=true/\∀m:Nat,(ie (fT s) (f+1) n d st).2[m]?=some 1->st[m]?=some 1:=by
 intro f
 induction f with
 | zero=>intro n d st y aN bK h1 ah _ _;omega
 | succ f b' =>
  intro n d st y aN bK h1 ah bj hu;obtain⟨ao,aU,dG⟩:=l_ y (List.mem_of_getElem? aN);have hL:=(List.getElem?_eq_some_iff.1 aN).1;obtain⟨v,cI⟩:∃v,st[n]?=some v:=⟨_,List.getElem?_eq_getElem aa⟩;by_cases kl:v=2
  . rw[E' (IF aN) cI kl];exact⟨rfl,λm h=>h⟩
  . have fW:¬ (v=1\/d>12\/((jY y.1,y.2).1=false/\(jY y.1,y.2).2=[])):=by
     rintro(h|h|⟨aB,bE⟩)
     . subst h
       have:=hu n y cI aN
       omega
     . omega
     . apply dG
       simp only at aB bE
       have p6:gZ (fE y.1)=[]:=List.eq_nil_of_length_eq_zero (by rw[(cZ.get ao).1,bE];rfl)
       have:=H0 (x:=y) aU
       rw[aB,p6] at this
       simpa using this
    have key:=VJ (g:=λst e=>ie (fT s) (f+1) e.to.toNat (d+1) st) (Inv:=λIG=>IG.length=s.length/\∀m:Nat,IG[m]?=some 1->st[m]?=some 1\/m=n) y.2 (st.set n 1) ⟨by rw[List.length_set];exact bj,λm h=>by
     rw[List.getElem?_set] at h
     split at h
     . right;omega
     . left;exact h⟩ (λe he IG ⟨H3,Hu⟩=>by
     obtain⟨g,iQ,aB,j,es,bE,c6⟩:=M4 ao e he
     have IH:=Ff aU iQ
     have bo:e.to.toNat=j:=by omega
     have:=b' j (d+1) IG (g.2,es) c6 aa (by simp only;omega) aa H3 (λm z hm cO=>by
      rcases Hu m hm with h|h
      . have:=hu m z h cO;simp only;omega
      . subst h
        obtain rfl:y=z:=Option.some.inj (aN.symm.trans cO)
        simp only;omega)
     simp only[bo]
     refine⟨this.1,by rw[Ix];exact H3,λm hm=>Hu m (this.2 m hm)⟩)
    obtain⟨bC,cy,dE⟩:=key;rw[MQ (IF aN) cI kl fW rfl];simp only;rw[if_pos bC];refine⟨rfl,λm hm=>?_⟩;simp only at hm;rw[List.getElem?_set] at hm;split at hm
    . split at hm
      . simp at hm
      . cases hm
    . rename_i asN;rcases dE m hm with h|h
      . exact h
      . omega
theorem afZ{a:aj}{d:Int}{f:Nat}(M5:∀(n:Nat) (a:aj) (l:List aj) (y:List aj×List ca),s[n]?=some y->d+1+mq y.1<=12->l.length+y.1.length<=60->nM (fT s) f n a (d+1) (l,true)=(l++y.1.map (a++·),true)):
 ∀{gs:List (Nat×List aj)} {es:List ca},cZ (λg e=>e.rune=(g.1:Int)/\∃(j:Nat) (es:List ca),e.to=(j:Int)/\s[j]?=some (g.2,es)) gs es->(∀g∈gs,kO g.1/\d+1+mq g.2<=12)->∀l:List aj,l.length+(gs.flatMap λg=>g.2.map (ei g.1++·)).length<=60 ->
  es.foldl (λjT e=>nM (fT s) f e.to.toNat (a++fB e.rune) (d+1) jT) (l,true)=(l++(gs.flatMap λg=>g.2.map (ei g.1++·)).map (a++·),true):=by
 intro gs es h
 induction h with
 | nil=>intro _ l _;simp
 | @cons g e gs es yH a' f_ =>
  intro aU l bj;obtain⟨h1,j,rM,ah,aB⟩:=yH;obtain⟨bC,cy⟩:=aU g dg;rw[List.flatMap_cons,List.length_append,List.length_map] at bj;rw[List.foldl_cons,show e.to.toNat=j from by omega,h1,yR bC,M5 j _ l (g.2,rM) aB cy (by simp only;omega),f_ (λfv s_=>aU fv (by simp[s_])) _ (by simp only[List.length_append,List.length_map];omega)];rw[List.flatMap_cons,List.map_append,List.map_map,List.append_assoc];congr 3
  apply List.map_congr_left;intro t _;simp
theorem af0(l_:∀y∈s,o_ s y/\gu y.1):∀(f n:Nat) (a:aj) (d:Int) (l:List aj) (y:List aj×List ca),s[n]?=some y->0<=d->d+mq y.1<=12->13<=d+f->l.length+y.1.length<=60->nM (fT s) (f+1) n a d (l,true)=(l++y.1.map (a++·),true):=by
 intro f
 induction f with
 | zero=>intro n a d l y aN bK h1 ah _;omega
 | succ f b' =>
  intro n a d l y aN bK h1 ah bj;obtain⟨ao,aU⟩:=l_ y (List.mem_of_getElem? aN);have fV:=H0 (x:=y) aU;refine MU (by rintro(h|h|h);cases h;omega;omega) (IF aN) rfl ?_;simp only;have hlen:=congrArg List.length fV;rw[List.length_append] at hlen;have key:=λCW tN=>afZ (s:=s) (a:=a) (d:=d) (f:=f+1) (λn a l y aN hd bj=>b' n a (d+1) l y aN aa hd aa bj) ao (λg iQ=>⟨(CU aU iQ).1,by have:=Ff aU iQ;omega⟩) CW tN
  cases bB:jY y.1 with
  | true =>
   rw[bB,if_pos rfl] at fV;rw[bB,if_pos rfl] at hlen;rw[if_pos rfl,key _ (by simp only[List.length_append,List.length_cons,List.length_nil] at hlen ⊢;omega)]
   conv=>rhs;rw[fV]
   simp
  | false =>
   rw[bB,if_neg b2] at fV;rw[bB,if_neg b2] at hlen;rw[if_neg b2,key _ (by simp only[List.length_nil] at hlen ⊢;omega)]
   conv=>rhs;rw[fV]
   simp
end
theorem af1{words:List aj}(h:e6 words=0):CS (h7 words)=some words:=by
 by_cases hw:words=[]
 . subst hw;rw[Ia rfl];have aT:kk [(false,[])]=([],true):=(by decide);unfold CS;rw[aT];rw[if_pos ⟨by decide,by decide,by decide,by decide,rfl,by decide,Ia rfl⟩]
 . have jF:=ta h;have bX:=Cx jF.2 jF.1 hw;have fX:o' words=s9 words:=(by unfold o';rw[if_neg hw]);have ho:=t' h;rw[fX] at ho;obtain⟨ti,bK⟩:=bX.root;have af2:=VB jF.2;have dI:=CP h
   have Fg:kk (h7 words)=(words,true):=by
    have:=af0 (s:=s9 words) (λy aD=>⟨(bX.node y aD).wi,(bX.node y aD).fO⟩) 13 0 [] 0 [] (words,ti) bK aa (by simp only;omega) aa (by have:=(wh h).1;simp only[List.length_nil];omega)
    unfold kk
    rw[ho,this]
    have Co:=(wh h).1
    simp;exact Co
   unfold CS;rw[Fg];refine if_pos ⟨?_,by omega,afX h,?_,rfl,h,rfl⟩
   . rw[Iy];intro x ag e he;rw[ho] at ag;obtain⟨y,aD,rfl⟩:=List.mem_map.1 ag;obtain⟨g,iQ,aB,j,es,bE,c6⟩:=M4 (bX.node y aD).wi e he;have bo:=(List.getElem?_eq_some_iff.1 c6).1;have IH:=Ff (bX.node y aD).fO iQ;have asO:=afT h y aD;rw[ho,u6];refine⟨?_,by omega⟩;rcases Nat.eq_zero_or_pos j with cO|cO
     . subst cO;have:g.2=words:=congrArg Prod.fst (Option.some.inj (c6.symm.trans bK))
       rw[this] at IH;omega
     . omega
   . unfold sw
     have:=afY (s:=s9 words) (λy aD=>⟨(bX.node y aD).wi,(bX.node y aD).fO,(bX.node y aD).ne⟩) 13 0 0 (List.replicate (h7 words).length 0) (words,ti) bK aa (by simp only;omega) aa (by rw[List.length_replicate,ho,u6]) (λm z hm _=>by
      rw[List.getElem?_replicate] at hm
      split at hm<;>simp at hm)
     rw[Bool.or_eq_true];right;rw[ho] at this ⊢;exact this.1
theorem VK{words:List aj}(h:e6 words=0):lz (h7 words)=h7 words:=by unfold lz;rw[af1 h]
theorem VL{words:List aj}(h:e6 words=0):∀x∈h7 words,xK x:=by
 have dI:=(CP h).2;intro x ag;refine⟨by have:=U2 h x ag;omega,λe he=>?_⟩;have bX:=CK h;rw[t' h] at ag dI;rw[u6] at dI;obtain⟨y,aD,rfl⟩:=List.mem_map.1 ag;obtain⟨g,iQ,aB,j,es,bE,c6⟩:=M4 (bX.node y aD).1 e he;have bo:=(List.getElem?_eq_some_iff.1 c6).1;have AU:=(CU (bX.node y aD).2.1 iQ).1;unfold kO at AU;exact⟨by omega,by omega,by omega,by omega⟩
theorem M6{words:List aj}(h:e6 words=0):iq (ly words)=(h7 words,0):=by
 rw[<-CQ h,afS (by have:=(CP h).2;omega) (VL h) (by rw[VK h];exact Ir h),VK h]
end Go.ak
