/-
  What the law WorkerServes needs, part 2 of 7: theory, and walks through the code. Names are said short.
-/
import Derived.Test.YtjideiielmlccaaGreatSWorkerServesA
set_option linter.unusedVariables false
set_option linter.unusedSimpArgs false
set_option maxRecDepth 20000
set_option maxHeartbeats 8000000
namespace Go.ak
open Go.aF
def rQ(s:aj):Prop:=(255:UInt8)∉s
theorem wi{n:Nat}(h:n % 256≠255):hR n≠255:=λe=>by
 have:=congrArg UInt8.toNat e
 rw[xy] at this
 exact h this
theorem adt{c:Nat}(h:kO c):rQ (eg c):=by
 obtain⟨h1,ag,aB⟩:=h;unfold rQ eg;repeat' split
 all_goals simp only[List.mem_cons,List.not_mem_nil,or_false,not_or]
 . exact λe=>wi aa e.symm
 . exact⟨λe=>wi aa e.symm,λe=>wi aa e.symm⟩
 . exact⟨λe=>wi aa e.symm,λe=>wi aa e.symm,λe=>wi aa e.symm⟩
 . exact⟨λe=>wi aa e.symm,λe=>wi aa e.symm,λe=>wi aa e.symm,λe=>wi aa e.symm⟩
theorem adu:∀s,ir s->rQ s:=
 L3 (by simp[rQ]) λc t al _ cc=>by
  have:=adt al
  unfold rQ at *
  rw[List.mem_append,not_or];exact⟨this,cc⟩
def p7(l:List aj):aj:=Lib.join l [255]
theorem Mb(x:aj)(r:List aj):p7 (x::r)=x++Lib.joinTail [255] r:=Lib.join_cons x r [255]
theorem tail_cons(x:aj)(r:List aj):Lib.joinTail [255] (x::r)=255::(x++Lib.joinTail [255] r):=by simp[Lib.joinTail]
theorem tail_nil:Lib.joinTail [255] []=[]:=rfl
theorem Mc:∀(x y u v:aj),rQ x->rQ y->(u=[]\/∃Eg,u=255::Eg)->(v=[]\/∃gS,v=255::gS)->x++u=y++v->x=y/\u=v
 | [],[],u,v,_,_,_,_,h=>⟨rfl,h⟩
 | [],b::y,u,v,_,aD,hu,_,h=>by
  simp only[List.nil_append,List.cons_append] at h
  rcases hu with rfl|⟨Eg,rfl⟩
  . cases h
  . simp only[List.cons.injEq] at h
    exact absurd (by simp[h.1]) aD
 | a::x,[],u,v,ah,_,_,cN,h=>by
  simp only[List.nil_append,List.cons_append] at h
  rcases cN with rfl|⟨gS,rfl⟩
  . cases h
  . simp only[List.cons.injEq] at h
    exact absurd (by simp[h.1]) ah
 | a::x,b::y,u,v,ah,aD,hu,cN,h=>by
  simp only[List.cons_append,List.cons.injEq] at h
  have:=Mc x y u v (λe=>ah (by simp[e])) (λe=>aD (by simp[e])) hu cN h.2
  exact⟨by rw[h.1,this.1],this.2⟩
theorem HR(r:List aj):Lib.joinTail [255] r=[]\/∃u,Lib.joinTail [255] r=255::u:=by
 cases r with
 | nil=>exact .inl rfl
 | cons x r=>exact .inr ⟨_,tail_cons x r⟩
theorem Tp:∀(r s:List aj),(∀x∈r,rQ x)->(∀x∈s,rQ x)->Lib.joinTail [255] r=Lib.joinTail [255] s->r=s
 | [],[],_,_,_=>rfl
 | [],y::s,_,_,h=>by rw[tail_nil,tail_cons] at h;cases h
 | x::r,[],_,_,h=>by rw[tail_nil,tail_cons] at h;cases h
 | x::r,y::s,a',aT,h=>by
  rw[tail_cons,tail_cons] at h
  simp only[List.cons.injEq,true_and] at h
  have:=Mc x y _ _ (a' x di) (aT y di) (HR r) (HR s) h
  rw[this.1,Tp r s (λx ah=>a' x (by simp[ah])) (λx ah=>aT x (by simp[ah])) this.2]
theorem adv{l m:List aj}(bk:∀x∈l,rQ x)(hm:∀x∈m,rQ x)(h1:l≠[])(ag:m≠[])(h:p7 l=p7 m):l=m:=by
 cases l with
 | nil=>exact absurd rfl h1
 | cons x r =>
  cases m with
  | nil=>exact absurd rfl ag
  | cons y s =>
   rw[Mb,Mb] at h;have:=Mc x y _ _ (bk x di) (hm y di) (HR r) (HR s) h;rw[this.1,Tp r s (λx ah=>bk x (by simp[ah])) (λx ah=>hm x (by simp[ah])) this.2]
theorem gy.EL{l:List aj}(h:gy l):∀x∈l,rQ x:=λx ah=>adu x (h.o7 x ah)
def jh(l:List aj):Nat:=(l.map List.length).sum
theorem adw(l:List aj):(p7 l).length<=jh l+l.length:=by
 cases l with
 | nil=>simp[p7,Lib.join,jh]
 | cons x r =>
  rw[Mb]
  have:∀r:List aj,(Lib.joinTail [255] r).length<=jh r+r.length:=by
   intro r
   induction r with
   | nil=>simp[tail_nil]
   | cons y r cc=>rw[tail_cons];simp only[jh,List.map_cons,List.sum_cons,List.length_cons,List.length_append] at *;omega
  have:=this r;simp only[jh,List.map_cons,List.sum_cons,List.length_cons,List.length_append] at *;omega
def l_(s:c6):List (aj×Int):=s.mapIdx λi x=>(p7 x.1,(i:Int))
theorem adx(s:c6)(x:List aj×List cg):l_ (s++[x])=l_ s++[(p7 x.1,(s.length:Int))]:=by
 unfold l_;rw[List.mapIdx_concat]
theorem ady{s t:c6}(h:names s=names t):l_ s=l_ t:=by
 unfold l_;have bk:s.length=t.length:=(by simpa[names] using congrArg List.length h);refine List.ext_getElem (by simp[bk]) λi h1 ag=>?_
 simp only[List.length_mapIdx] at h1 ag;simp only[List.getElem_mapIdx,Prod.mk.injEq,and_true];have:(names s)[i]'(by simpa[names] using h1)=(names t)[i]'(by simpa[names] using ag):=by simp only[h]
 simp only[names,List.getElem_map] at this;rw[this]
def wj(s:c6):Prop:=∀x∈s,x.1≠[]/\∀t∈x.1,rQ t
theorem Tq{r:List aj}(a':∀t∈r,rQ t)(dL:r≠[]):∀(s:c6),wj s->gz (l_ s) (p7 r)=(s.findIdx? λx=>x.1==r).map λi:Nat=>(i:Int):=by
 intro s aT
 have key:∀(s:c6) (k:Nat),wj s->gz (s.mapIdx λi x=>(p7 x.1,((i+k:Nat):Int))) (p7 r)=(s.findIdx? λx=>x.1==r).map λi:Nat=>((i+k:Nat):Int):=by
  intro s
  induction s with
  | nil=>intro k _;rfl
  | cons x s cc =>
   intro k h
   rw[List.mapIdx_cons,List.findIdx?_cons]
   by_cases ah:x.1=r
   . simp[gz,ah]
   . have bn:p7 x.1≠p7 r:=λe=>ah (adv (h x di).2 a' (h x di).1 dL e)
     have:=cc (k+1) (λy aD=>h y (by simp[aD]))
     unfold gz at this ⊢
     rw[List.find?_cons]
     simp only[decide_eq_false bn]
     have fV:(λ(i:Nat) (x:List aj×List cg)=>(p7 x.1,((i+1+k:Nat):Int)))=λ(i:Nat) (x:List aj×List cg)=>(p7 x.1,((i+(k+1):Nat):Int)):=by
      funext i x;congr 2;omega
     rw[fV,this]
     have adz:(x.1==r)=false:=by simp[ah]
     simp only[adz,Bool.false_eq_true,if_false,Option.map_map]
     cases s.findIdx? λx=>x.1==r with
     | none=>rfl
     | some i=>simp only[Option.map_some,Function.comp_apply,Option.some.injEq];omega
 exact key s 0 aT
def j5(r:List aj):Bool:=decide (r.head?=some [])
def Md(es:List cg)(r:Int):Option Int:=(es.find? λe=>e.rune==r).map cg.to
def fq{b8:Type}(f:b8->aj->b8×Bool):b8->List aj->b8×Bool
 | s,[]=>(s,true)
 | s,x::r=>if (f s x).2=true then fq f (f s x).1 r else((f s x).1,false)
theorem Me{b8:Type}(f:b8->aj->b8×Bool):∀(a b:List aj) (s:b8),fq f s (a++b)=if (fq f s a).2=true then fq f (fq f s a).1 b else fq f s a
 | [],b,s=>by simp[fq]
 | x::a,b,s=>by
  simp only[List.cons_append,fq]
  split
  . rw[Me f a b]
  . simp
theorem HS{x:List aj×List cg}(h:gy x.1):x.1=(if j5 x.1=true then[[]] else[])++(g_ (fI x.1)).flatMap λg=>g.2.map (eg g.1++·):=by
 have hd:=u9 h;have ok:=xA _ _ (Nat.le_refl _) hd.1 hd.2;rw[ok.all];unfold j5
 cases ah:x.1 with
 | nil=>simp[fI]
 | cons a r =>
  cases a with
  | nil=>simp[fI]
  | cons y a=>simp[fI]
theorem ni.step{s:aj}{p:Nat}{l:List Int}(h:ni s p l)(he:s.drop p≠[])(hd:((dec (s.drop p)).1:Int)≠65533):ni s (p+(dec (s.drop p)).2) (l++[((dec (s.drop p)).1:Int)]):=by
 obtain⟨pre,h1,ag,aB⟩:=h.ex;refine⟨⟨_,h1.next he,by rw[ag,List.map_append];rfl,?_⟩⟩;simp only[List.mem_append,List.mem_singleton,not_or];exact⟨aB,λe=>hd aa⟩
theorem ni.v_{s:aj}{p:Nat}{l:List Int}(h:ni s p l)(he:s.drop p≠[])(hd:((dec (s.drop p)).1:Int)=65533):false=j4 s:=by
 obtain⟨pre,h1,ag,aB⟩:=h.ex;have:=h1.mem he;have e:(dec (s.drop p)).1=65533:=(by omega);rw[e] at this;unfold j4;simp[this]
theorem ni.done{s:aj}{p:Nat}{l:List Int}(h:ni s p l)(he:s.drop p=[]):l=d_ s/\true=j4 s:=by
 obtain⟨pre,h1,ag,aB⟩:=h.ex;have:=h1.done he;refine⟨by rw[ag,d_,this],?_⟩;unfold j4;rw[this];simp[aB]
theorem ni.pos{s:aj}{p:Nat}{l:List Int}(h:ni s p l):p<=s.length:=by
 obtain⟨pre,h1,_⟩:=h.ex;exact h1.le
theorem Mf(s:aj):(jK s).length<=s.length:=by
 unfold jK;split
 . unfold d_;rw[List.length_map];exact Sd s
 . simp
def xB(s:aj)(p:Nat)(hd:Int):Prop:=(p=0/\hd=0)\/(0<p/\p=l8 s/\hd=(gb s:Int))
theorem xB.next{s:aj}{p:Nat}{hd:Int}(h:xB s p hd)(he:s.drop p≠[])(bH:p=0):xB s (p+(dec (s.drop p)).2) ((dec (s.drop p)).1:Int):=by
 subst bH;simp only[List.drop_zero,Nat.zero_add] at he ⊢;have:=yG s he;exact .inr ⟨by omega,rfl,rfl⟩
theorem xB.ret{s:aj}{p:Nat}{hd:Int}(h:xB s p hd)(bH:0<p):hd=(gb s:Int)/\(p:Int)=((l8 s:Nat):Int):=by
 rcases h with h|h
 . omega
 . exact⟨h.2.2,by rw[h.2.1]⟩
theorem xB.fin{s:aj}{p:Nat}{hd:Int}(h:xB s p hd)(dL:s≠[])(he:s.drop p=[]):hd=(gb s:Int)/\(s.length:Int)=((l8 s:Nat):Int):=by
 rcases h with ⟨rfl,_⟩|⟨h1,ag,aB⟩
 . exact absurd (by simpa using he) dL
 . refine⟨aB,?_⟩;have bk:=Cf s dL;have:=congrArg List.length he;simp only[List.length_drop,List.length_nil] at this;unfold l8 at *;omega
theorem HT(s:aj):s≠[]->1<=l8 s/\l8 s<=s.length:=λh=>⟨yG s h,Cf s h⟩
theorem Tr(s:aj):gb s<=1114111:=R8 s
theorem Ts{s p:aj}{b:Bool}(bk:(s.length:Int)>=(p.length:Int))(ab:b=(s.take p.length==p)):b=p.isPrefixOf s:=by
 rw[ab,Bool.eq_iff_iff,List.isPrefixOf_iff_prefix,beq_iff_eq];constructor
 . intro h;rw[<-h];exact List.take_prefix _ _
 . rintro⟨t,rfl⟩;simp
theorem Tt{s p:aj}(bk:¬ (s.length:Int)>=(p.length:Int)):false=p.isPrefixOf s:=by
 cases h:p.isPrefixOf s with
 | false=>rfl
 | true =>
  rw[List.isPrefixOf_iff_prefix] at h;have:=h.length_le;omega
structure Tu(es:List cg)(r:Int)(k:Nat):Prop where
 no:∀e∈es.take k,e.rune≠r
theorem Tu.none{es:List cg}{r:Int}{k:Nat}(h:Tu es r k)(hk:es.length<=k):(0:Int)=(Md es r).getD 0/\false=(Md es r).isSome:=by
 have aN:=h.no;rw[List.take_of_length_le hk] at aN
 have:es.find? (λe=>e.rune==r)=Option.none:=by
  rw[List.find?_eq_none]
  intro e he;simp[aN e he]
 unfold Md;rw[this];exact⟨rfl,rfl⟩
end Go.ak
set_option linter.unusedSectionVars false
namespace Go.aF
open Go
theorem bz.Mg{P:Program}{E:Env}{C:World->Prop}{d:Option Tmp}{ty:TypeId}{pos:String}{af:Array Edge}{gd:Option (Nat×Bool)}{xt yt e:TypeId}{x y:Operand}{a:Option Addr}{n c:Nat}(hu:P.underlying xt=some (.slice e))(ah:aP E x=some (.slice a n c))(aD:aP E y=some (.slice none 0 0)):
 bz P ⟨d,.binOp .eql xt x y yt,ty,pos,af,gd⟩ E C (.bool a.isNone):=λs ax w _=>by
 have h:(Op.equal xt (.slice a n c) (.slice none 0 0)).run P w=.ok a.isNone w:=by
  have key:∀k,(Op.equalIn (k+1) xt (.slice a n c) (.slice none 0 0)).run P w=.ok a.isNone w:=λk=>by
   cases a<;>simp[Op.equalIn,run_underlying hu]
  exact key 9999
 have aU:(eqGuard .eql xt x y (.slice a n c) (.slice none 0 0)).run P w=.ok () w:=by
  unfold eqGuard;split<;>simp
 simp[execOp,ax.aP ah,ax.aP aD,aU,Go.binOp,h]
theorem aq.isNil{α:Type}{enc:α->List Value}{w:World}{F:Nat->Prop}{v:Value}{l:List α}(h:aq enc w F v l):∃a c,v=.slice a l.length c/\(a.isNone=true->l=[]):=by
 obtain⟨a,c,h1,ag,aB,bE⟩:=h;refine⟨a,c,h1,λaN=>?_⟩;rcases bE with bE|⟨b,off,c3,_⟩
 . exact bE
 . subst c3;cases aN
structure c8 where
 fin:Bool
 e:cP
def fw(x:c8):List Value:=[.bool x.fin,x.e.val]
theorem nM(x:c8):(fw x).length=2:=rfl
theorem EM(x:c8):(fw x).all (·.oneCell')=true:=rfl
abbrev cx:=Bool×List ak.cg
def j6(w:World)(F:Nat->Prop)(bm:List c8)(N:List cx):Prop:=c4 (λr n=>r.fin=n.1/\aq ak.e2 w F r.e.val n.2) bm N
theorem j6.keep{M:Nat->Prop}{w an:World}{F:Nat->Prop}{bm:List c8}{N:List cx}(h:j6 w F bm N)(hm:Mod M w an)(br:∀b,F b->¬ M b):j6 an F bm N:=
 c4.imp (λr n ⟨h1,ag⟩=>⟨h1,ag.keep hm br⟩) h
theorem j6.ext{w an:World}{F:Nat->Prop}{bm:List c8}{N:List cx}(h:j6 w F bm N)(hm:Ext w an):j6 an F bm N:=h.keep hm (λ_ _ x=>x)
theorem j6.mono{w:World}{F F':Nat->Prop}{bm:List c8}{N:List cx}(h:j6 w F bm N)(br:∀b,F b->F' b):j6 w F' bm N:=
 c4.imp (λr n ⟨h1,ag⟩=>⟨h1,ag.mono br⟩) h
theorem j6.at{w:World}{F:Nat->Prop}{bm:List c8}{N:List cx}(h:j6 w F bm N){i:Nat}{r:c8}(a':bm[i]?=some r):∃n,N[i]?=some n/\r.fin=n.1/\aq ak.e2 w F r.e.val n.2:=by
 have aU:=h.get;have hN:=(List.getElem?_eq_some_iff.1 a').1;have ah:N[i]?=some (N[i]'(by rw[<-aU.1];exact hN)):=(by simp);exact⟨_,ah,aU.2 i _ _ a' ah⟩
def hy(gt:TypeId)(w:World)(c5 ar:Nat)(v:Value)(N:List cx):Prop:=
 (v=.pointer none/\N=[])\/∃b gn bm,v=ptr b 0/\N≠[]/\kk w c5 ar b [gn]/\aq fw w (dr c5 ar) gn bm/\j6 w (dr c5 ar) bm N
theorem hy.ext{gt:TypeId}{w an:World}{c5 ar:Nat}{v:Value}{N:List cx}(h:hy gt w c5 ar v N)(hm:Ext w an):hy gt an c5 ar v N:=by
 rcases h with h|⟨b,gn,bm,h1,ag,aB,bE,c3⟩
 . exact .inl h
 . exact .inr ⟨b,gn,bm,h1,ag,aB.ext hm,bE.ext hm,c3.ext hm⟩
theorem hy.bD{gt:TypeId}{w an:World}{c5 ar g:Nat}{v:Value}{N:List cx}(h:hy gt w c5 ar v N)(hm:Mod (ca g) w an)(aU:g<=c5\/ar<g):hy gt an c5 ar v N:=by
 rcases h with h|⟨b,gn,bm,h1,ag,aB,bE,c3⟩
 . exact .inl h
 . exact .inr ⟨b,gn,bm,h1,ag,aB.bD hm aU,bE.bD hm aU,c3.keep hm λb ab ah=>by unfold dr ca at *;omega⟩
def fW(s:ak.c6):List cx:=s.map λx=>(ak.j5 x.1,x.2)
def nodeAt(N:List cx)(n:Int):cx:=if 0<=n then N[n.toNat]?.getD (false,[]) else(false,[])
theorem EN{N:List cx}{n:Int}(h:n<0\/(N.length:Int)<=n):nodeAt N n=(false,[]):=by
 unfold nodeAt;split
 . have:N[n.toNat]?=none:=List.getElem?_eq_none aa
   rw[this];rfl
 . rfl
theorem Mh{N:List cx}{n:Int}{x:cx}(h:0<=n)(ah:N[n.toNat]?=some x):nodeAt N n=x:=by
 unfold nodeAt;rw[if_pos h,ah];rfl
theorem j6.bD{w an:World}{c5 ar g:Nat}{bm:List c8}{N:List cx}(h:j6 w (dr c5 ar) bm N)(hm:Mod (ca g) w an)(aU:g<=c5\/ar<g):j6 an (dr c5 ar) bm N:=h.keep hm λb ab ah=>by unfold dr ca at *;omega
theorem hy.pos{gt:TypeId}{w:World}{c5 ar:Nat}{v:Value}{N:List cx}(h:hy gt w c5 ar v N)(aN:0<N.length):∃b gn bm,v=ptr b 0/\N≠[]/\kk w c5 ar b [gn]/\aq fw w (dr c5 ar) gn bm/\j6 w (dr c5 ar) bm N:=by
 rcases h with ⟨_,h⟩|h
 . subst h;simp at aN
 . exact h
theorem Cw{N:List cx}(h:∀x∈N,x.2.length<=1000000)(n:Int):(nodeAt N n).2.length<=1000000:=by
 unfold nodeAt;split
 . cases ah:N[n.toNat]? with
   | none=>simp
   | some x=>exact h x (List.mem_of_getElem? ah)
 . simp
structure Mi(P:Program){b8:Type}(kP:FuncId)(first cap:List Value)(B:Nat)(Inv:b8->(Nat->Prop)->World->Prop)(ok:b8->aj->Prop)(f:b8->aj->b8×Bool):Prop where
 cl:b7 P kP=true
 ext:∀s F w an,Inv s F w->Ext w an->Inv s F an
 EO:∀s F w,Inv s F w->∀b,F b->B<=b/\b<w.heap.size
 call:∀s F w x,Inv s F w->ok s x->Calls P kP (first++[aE x]++cap).toArray w (ao λaC an=>aC=.bool (f s x).2/\Mod F w an/\∃F',Inv (f s x).1 F' an/\∀b,F' b->F b\/w.heap.size<=b)
def xC(F:Nat->Prop)(B:Nat):Prop:=∀b,F b->B<=b
theorem xC.of{P:Program}{b8:Type}{kP:FuncId}{first cap:List Value}{B:Nat}{Inv:b8->(Nat->Prop)->World->Prop}{ok:b8->aj->Prop}{f:b8->aj->b8×Bool}(aD:Mi P kP first cap B Inv ok f){s:b8}{F:Nat->Prop}{w:World}(h:Inv s F w):xC F B:=λb ab=>(aD.EO s F w h b ab).1
theorem aq.ue{α:Type}{enc:α->List Value}{w an:World}{c5 ar B:Nat}{F:Nat->Prop}{v:Value}{l:List α}(h:aq enc w (dr c5 ar) v l)(hm:Mod F w an)(br:xC F B)(aU:ar<=B):aq enc an (dr c5 ar) v l:=
 h.keep hm λb ab ah=>by have:=br b ah;unfold dr at ab;omega
theorem kk.ue{w an:World}{c5 ar b B:Nat}{F:Nat->Prop}{cs:List Value}(h:kk w c5 ar b cs)(hm:Mod F w an)(br:xC F B)(aU:ar<=B):kk an c5 ar b cs:=⟨h.1,h.2.1,h.2.2.keep hm λah=>by have:=h.2.1;have:=br b ah;omega⟩
theorem j6.ue{w an:World}{c5 ar B:Nat}{F:Nat->Prop}{bm:List c8}{N:List cx}(h:j6 w (dr c5 ar) bm N)(hm:Mod F w an)(br:xC F B)(aU:ar<=B):j6 an (dr c5 ar) bm N:=h.keep hm λb ab ah=>by have:=br b ah;unfold dr at ab;omega
theorem hy.ue{gt:TypeId}{w an:World}{c5 ar B:Nat}{F:Nat->Prop}{v:Value}{N:List cx}(h:hy gt w c5 ar v N)(hm:Mod F w an)(br:xC F B)(aU:ar<=B):hy gt an c5 ar v N:=by
 rcases h with h|⟨b,gn,bm,h1,ag,aB,bE,c3⟩
 . exact .inl h
 . exact .inr ⟨b,gn,bm,h1,ag,aB.ue hm br aU,bE.ue hm br aU,c3.ue hm br aU⟩
theorem AN.hh{F:Nat->Prop}{g:Nat}{w0 w an:World}(h:Mod F w0 w)(k:Mod (ca g) w an)(aU:g=0\/w0.heap.size<g):Mod F w0 an:=h.then k (λi ar bk=>by unfold ca at ar;omega)
theorem AN.Mj{F F':Nat->Prop}{w0 w an:World}(h:Mod F w0 w)(k:Mod F' w an)(br:∀b,F' b->F b\/w0.heap.size<=b):Mod F w0 an:=h.then k (λi ar bk=>(br i ar).resolve_right aa)
def l'{b8:Type}(ok:b8->aj->Prop)(f:b8->aj->b8×Bool):b8->List aj->Prop
 | _,[]=>True
 | s,x::r=>ok s x/\((f s x).2=true->l' ok f (f s x).1 r)
theorem l'.app{b8:Type}{ok:b8->aj->Prop}{f:b8->aj->b8×Bool}:∀{a b:List aj} {s:b8},l' ok f s (a++b)->l' ok f s a/\((ak.fq f s a).2=true->l' ok f (ak.fq f s a).1 b)
 | [],b,s,h=>⟨trivial,λ_=>h⟩
 | x::a,b,s,h=>by
  have h1:ok s x/\((f s x).2=true->l' ok f (f s x).1 (a++b)):=h
  constructor
  . exact⟨h1.1,λah=>(l'.app (h1.2 ah)).1⟩
  . intro he
    unfold ak.fq at he ⊢
    split at he
    . rename_i ah
      rw[if_pos ah]
      exact(l'.app (h1.2 ah)).2 he
    . cases he
open ak in
def ti(ahead:aj)(r:List aj)(k:Nat):List aj:=((g_ (fI r)).drop k).flatMap λg=>g.2.map λt=>ahead++(eg g.1++t)
open ak in
theorem Tv{ahead:aj}{r:List aj}(h:gy r):r.map (ahead++·)=(if j5 r=true then[ahead] else[])++ti ahead r 0:=by
 have ax:=HS (x:=(r,[])) h;simp only at ax;unfold ti
 conv=>lhs;rw[ax]
 rw[List.map_append,List.drop_zero,List.map_flatMap];congr 1
 . split<;>simp
 . simp[List.map_map,Function.comp_def]
open ak in
theorem sw{ahead:aj}{r:List aj}{k:Nat}{g:Nat×List aj}(aU:(g_ (fI r))[k]?=some g):ti ahead r k=g.2.map ((ahead++eg g.1)++·)++ti ahead r (k+1):=by
 obtain⟨hk,rfl⟩:=List.getElem?_eq_some_iff.1 aU;unfold ti;rw[List.drop_eq_getElem_cons hk,List.flatMap_cons];congr 1
 simp
open ak in
theorem wk{ahead:aj}{r:List aj}{k:Nat}(h:(g_ (fI r)).length<=k):ti ahead r k=[]:=by
 unfold ti;rw[List.drop_of_length_le h];rfl
open ak in
theorem wm{b8:Type}{f:b8->aj->b8×Bool}{dD et:b8}{all rest a b:List aj}(h:fq f dD all=fq f et rest)(a':rest=a++b)(ab:(fq f et a).2=false):fq f dD all=fq f et a:=by
 rw[h,a',Me,if_neg (by rw[ab];simp)]
open ak in
theorem Tw{b8:Type}{f:b8->aj->b8×Bool}{dD et:b8}{all rest a b:List aj}(h:fq f dD all=fq f et rest)(a':rest=a++b)(ab:(fq f et a).2=true):fq f dD all=fq f (fq f et a).1 b:=by
 rw[h,a',Me,if_pos ab]
open ak in
theorem Mk{b8:Type}{f:b8->aj->b8×Bool}{s:b8}{a:aj}{r:List aj}(h:(f s a).2=true):fq f s ([a]++r)=fq f (f s a).1 r:=by
 simp[fq,h]
open ak in
theorem u'{b8:Type}{f:b8->aj->b8×Bool}{s:b8}{a:aj}{r:List aj}(h:(f s a).2=false):fq f s ([a]++r)=((f s a).1,false):=by
 simp[fq,h]
open ak in
open ak in
theorem AO{s:c6}{x:List aj×List cg}(al:o8 s x)(jL:gy x.1){k:Nat}{e:cg}(he:x.2[k]?=some e):∃(g:Nat×List aj) (j:Nat) (es:List cg),(g_ (fI x.1))[k]?=some g/\e.rune=(g.1:Int)/\e.to=(j:Int)/\s[j]?=some (g.2,es)/\kO g.1/\g.2≠[]:=by
 have aU:=c4.get al;have hN:=(List.getElem?_eq_some_iff.1 he).1;have ah:(g_ (fI x.1))[k]?=some ((g_ (fI x.1))[k]'(by rw[aU.1];exact hN)):=(by simp);obtain⟨h1,j,es,ag,aB⟩:=aU.2 k _ _ ah he;have hd:=u9 jL;have ok:=xA _ _ (Nat.le_refl _) hd.1 hd.2;have bX:=ok.e9 _ (List.mem_of_getElem? ah);exact⟨_,j,es,ah,h1,ag,aB,bX.1,bX.2.1⟩
open ak in
theorem Cx{l:List aj}(aU:gy l){d k:Nat}{g:Nat×List aj}(h:Deep d l)(hk:(g_ (fI l))[k]?=some g):∃e,d=e+1/\Deep e g.2:=by
 have iO:=List.mem_of_getElem? hk
 cases d with
 | zero =>
  exfalso;have hd:=u9 aU;have ok:=xA _ _ (Nat.le_refl _) hd.1 hd.2
  obtain⟨t,a8⟩:∃t,t∈g.2:=by
   cases eE:g.2 with
   | nil=>exact absurd eE (ok.e9 g iO).2.1
   | cons t _=>exact⟨t,by simp⟩
  have hm:eg g.1++t∈fI l:=by
   rw[<-ok.all]
   exact List.mem_flatMap.2 ⟨g,iO,List.mem_map.2 ⟨t,a8,rfl⟩⟩
  have:=h _ (AF hm);rw[we (ok.e9 g iO).1] at this;simp at this
 | succ e=>exact⟨e,rfl,S7 aU h g iO⟩
open ak in
theorem AP{s:c6}{n:Nat}{x:List aj×List cg}(h:s[n]?=some x):nodeAt (fW s) (n:Int)=(j5 x.1,x.2):=by
 refine Mh aa ?_;simp[fW,h]
theorem va(s:ak.c6):(fW s).length=s.length:=by simp[fW]
theorem xD(c:Nat):(ak.eg c).length<=4:=by
 unfold ak.eg;repeat' split
 all_goals simp
structure uf(N:List cx)(s:ak.c6)(words:List aj):Prop where
 nodes:N=fW s
 root:∃es,nodeAt N 0=(ak.j5 words,es)/\ak.o8 s (words,es)
 e9:ak.gy words
 deep:ak.Deep 12 words
 node:∀y∈s,ak.o8 s y/\ak.gy y.1/\ak.Deep 12 y.1
 size:s.length<=1000000
 Tx:∀y∈s,y.2.length<=1000000
theorem uf.of{s:ak.c6}{words:List aj}(h:ak.Ta s words)(aT:s.length<=1000000)(Lq:∀y∈s,y.2.length<=1000000):uf (fW s) s words:=by
 obtain⟨es,he⟩:=h.root;have aN:=h.node _ (List.mem_of_getElem? he);exact⟨rfl,⟨es,AP he,aN.wh⟩,aN.e9,aN.deep,λy aD=>⟨(h.node y aD).wh,(h.node y aD).e9,(h.node y aD).deep⟩,aT,Lq⟩
theorem uf.empty:uf [(false,[])] [([],[])] []:=⟨rfl,⟨[],rfl,.nil⟩,⟨List.Pairwise.nil,by simp⟩,by simp[ak.Deep],by
 intro y aD
 simp only[List.mem_singleton] at aD
 subst aD
 exact⟨.nil,⟨List.Pairwise.nil,by simp⟩,by simp[ak.Deep]⟩,by simp,by simp⟩
def wo(rR e:TypeId)(e_ B:Nat)(l:List aj)(F:Nat->Prop)(w:World):Prop:=
 ∃v g,du w e_ [v] rR/\Acc cz e 1 w g v l/\e_+1≠g/\B<=e_/\(g=0\/B<g)/\∀b,F b↔b=e_\/b+1=g
theorem wo.ext{rR e:TypeId}{e_ B:Nat}{l:List aj}{F:Nat->Prop}{w an:World}(h:wo rR e e_ B l F w)(hm:Ext w an):wo rR e e_ B l F an:=by
 obtain⟨v,g,h1,ag,aB⟩:=h;exact⟨v,g,h1.ext hm,ag.ext hm,aB⟩
theorem wo.EO{rR e:TypeId}{e_ B:Nat}{l:List aj}{F:Nat->Prop}{w:World}(h:wo rR e e_ B l F w):∀b,F b->B<=b/\b<w.heap.size:=by
 obtain⟨v,g,h1,ag,aB,bE,c3,eX⟩:=h;intro b ab;have bk:=h1.lt;have aU:=ag.lt;rcases(eX b).1 ab with e|e
 . omega
 . omega
theorem wo.go{rR e:TypeId}{e_ B:Nat}{j2:List aj}{F:Nat->Prop}{w an:World}{gS:Value}{g fy:Nat}(eX:∀b,F b↔b=e_\/b+1=g)(ft:B<=e_)(c3:g=0\/B<g)(dL:e_+1≠g)(ab:e_<w.heap.size)(bF:du an e_ [gS] rR)(cB:Acc cz e 1 an fy gS j2)(dG:fy=g\/w.heap.size<fy):
 ∃F',wo rR e e_ B j2 F' an/\∀b,F' b->F b\/w.heap.size<=b:=
 ⟨λb=>b=e_\/b+1=fy,⟨gS,fy,bF,cB,by omega,ft,by omega,λb=>Iff.rfl⟩,λb yJ=>by
  rcases yJ with e|e
  . exact .inl ((eX b).2 (.inl e))
  . rcases dG with dG|dG
    . exact .inl ((eX b).2 (.inr aa))
    . exact .inr aa⟩
theorem Ty:∀(L l:List aj),ak.fq (λ(s:List aj) x=>(s++[x],true)) l L=(l++L,true)
 | [],l=>by simp[ak.fq]
 | x::L,l=>by
  simp only[ak.fq,if_true]
  rw[Ty L (l++[x])];simp
theorem Tz(m:Nat):∀(L l:List aj),l.length+L.length<=m->l' (λ(s:List aj) (_:aj)=>s.length<=m) (λs x=>(s++[x],true)) l L
 | [],l,_=>trivial
 | x::L,l,h=>⟨by simp only[List.length_cons] at h;omega,λ_=>Tz m L (l++[x]) (by simp only[List.length_cons,List.length_append,List.length_nil] at h ⊢;omega)⟩
theorem wq{α:Type}{l:List α}{k:Nat}{x:α}(ah:l[k]?=some x):l.drop k=x::l.drop (k+1):=by
 obtain⟨h,rfl⟩:=List.getElem?_eq_some_iff.1 ah;exact List.drop_eq_getElem_cons h
open ak in
open ak in
open ak in
open ak in
theorem adA{w:aj}{k:Nat}{r:Int}(h:(jK w)[k]?=some r):ir w/\∃c:Nat,(hi w)[k]?=some c/\r=(c:Int)/\kO c:=by
 unfold jK at h;split at h
 . rename_i bC;have bC:=SU.1 bC;unfold d_ at h;rw[List.getElem?_map] at h;obtain⟨c,al,rfl⟩:=Option.map_eq_some_iff.1 h;exact⟨bC,c,al,rfl,(HL w bC).2 c (List.mem_of_getElem? al)⟩
 . simp at h
open ak in
open ak in
open ak in
theorem uf.yS{N:List cx}{s:c6}{words:List aj}(h:uf N s words):(∀x∈N,∀e∈x.2,bY e.to/\-2147483648<=e.rune/\e.rune<=2147483647)/\N.length<=1000000/\∀x∈N,x.2.length<=1000000:=by
 rw[h.nodes];refine⟨λx ah e he=>?_,by rw[va];exact h.size,λx ah=>?_⟩
 . obtain⟨y,aD,rfl⟩:=List.mem_map.1 ah;obtain⟨k,hk⟩:=List.mem_iff_getElem?.1 he;obtain⟨g,j,es,h1,ag,aB,bE,c3,eX⟩:=AO (h.node y aD).1 (h.node y aD).2.1 hk;have:=(List.getElem?_eq_some_iff.1 bE).1;have:=h.size;obtain⟨kC,_⟩:=c3;unfold bY;omega
 . obtain⟨y,aD,rfl⟩:=List.mem_map.1 ah;exact h.Tx y aD
theorem adB{w:aj}{k:Nat}{r:Int}(h:(ak.jK w)[k]?=some r):0<=r/\r<=1114111:=by
 obtain⟨_,c,_,rfl,h1,_⟩:=adA h;omega
end Go.aF
namespace Go.aF
open Go Go.Proofs
theorem adC(l:List aj):l.flatMap cz=l.map aE:=by
 induction l with
 | nil=>rfl
 | cons a l cc=>simp[cz,cc]
theorem adD{P:Program}{Ml:Go.Shelf.Ren}(L:Lays.n156 P Ml)(X:Builder.Extra P Ml){w0:World}{F:Nat->Prop}{v:Value}{l:List aj}(h:aq cz w0 F v l)(dL:l≠[])(ab:∀b,F b->b<w0.heap.size)(hlen:ak.jh l+l.length<=100000000):
 Calls P (Ml.f 156) #[v,aE [255]] w0 (ao λaC ai=>aC=aE (ak.p7 l)/\Ext w0 ai):=by
 obtain⟨a,cap,rfl,ag,aB,bE⟩:=h;rcases bE with bE|⟨b,off,rfl,br,a'⟩
 . exact absurd bE dL
 . have bn:=ak.adw l
   have TA:(l.map λs:aj=>(⟨s.toArray⟩:ByteArray)).map (·.data.toList)=l:=by
    rw[List.map_map]
    conv=>rhs;rw[<-List.map_id l]
    exact List.map_congr_left λs _=>by simp
   have al:=Any.strings_Join_48 L X b off cap (l.map λs:aj=>(⟨s.toArray⟩:ByteArray)) ⟨#[255]⟩ w0 (λj x ah=>by
    rw[List.getElem?_map] at ah
    obtain⟨s,aT,rfl⟩:=Option.map_eq_some_iff.1 ah
    have:=a' j (aE s) (by rw[adC,List.getElem?_map,aT];rfl)
    exact this) (ab b br) (by rw[List.length_map];omega) (by rw[List.length_map];exact ag) (by
    rw[TA]
    have:(ak.p7 l).length<=281474976710656:=by omega
    exact this)
   rw[List.length_map,TA] at al;refine Calls.mono al ?_;rintro e an ⟨rfl,hw⟩;exact⟨_,rfl,rfl,Mod.abC hw⟩
end Go.aF
set_option linter.unusedSectionVars false
namespace Go.aF
open Go
structure dq (R:Nat->Prop) where
 p:(Nat->Prop)->World->Prop
 keep:∀{F:Nat->Prop} {w an:World} {M:Nat->Prop},p F w->Mod M w an->(∀b,F b->¬ M b)->(∀b,R b->¬ M b)->p F an
def Sep{R:Nat->Prop}(L:List (dq R))(kl:Nat->Prop)(w:World):Prop:=
 ∃fh:Nat->Nat->Prop,(∀(i:Nat) (A:dq R),L[i]?=some A->A.p (fh i) w)/\(∀i b,fh i b->(kl b/\¬ R b)/\b<w.heap.size)/\∀i j b,i≠j->fh i b->¬ fh j b
section
variable {R:Nat->Prop} {L:List (dq R)} {kl:Nat->Prop} {w an:World}
theorem Sep.keep{M:Nat->Prop}(h:Sep L kl w)(hm:Mod M w an)(adE:∀b,kl b->b<w.heap.size->¬ M b)(fo:∀b,R b->¬ M b):Sep L kl an:=by
 obtain⟨fh,h1,ag,aB⟩:=h;exact⟨fh,λi A bg=>A.keep (h1 i A bg) hm (λb ab=>adE b (ag i b ab).1.1 (ag i b ab).2) fo,λi b ab=>⟨(ag i b ab).1,Nat.lt_of_lt_of_le (ag i b ab).2 hm.size⟩,aB⟩
theorem Sep.act{i:Nat}{A:dq R}(h:Sep L kl w)(fo:∀b,R b->b<w.heap.size)(ar:L[i]?=some A):∃F,A.p F w/\(∀b,F b->(kl b/\¬ R b)/\b<w.heap.size)/\∀(an:World) (F':Nat->Prop) (A':dq R),Mod F w an->A'.p F' an->(∀b,F' b->b<an.heap.size/\(F b\/(w.heap.size<=b/\kl b)))->Sep (L.set i A') kl an:=by
 obtain⟨fh,h1,ag,aB⟩:=h;refine⟨fh i,h1 i A ar,ag i,λan F' A' hm EP rS=>⟨λk=>if k=i then F' else fh k,λk B ft=>?_,λk b ab=>?_,λj k b n' bn hk=>?_⟩⟩
 . by_cases hk:k=i
   . subst hk;rw[List.getElem?_set_self (List.getElem?_eq_some_iff.1 ar).1] at ft;simp only[if_true];cases ft;exact EP
   . rw[List.getElem?_set_ne (λe=>hk e.symm)] at ft;simp only[if_neg hk];exact B.keep (h1 k B ft) hm (λb ab ah=>aB k i b hk ab ah) λb ab ah=>(ag i b ah).1.2 ab
 . by_cases hk:k=i
   . subst hk;simp only[if_true] at ab;obtain⟨bE,c3⟩:=rS b ab;exact⟨c3.elim (λh=>(ag k b h).1) (λh=>⟨h.2,λa'=>by have:=fo b a';omega⟩),bE⟩
   . simp only[if_neg hk] at ab;exact⟨(ag k b ab).1,Nat.lt_of_lt_of_le (ag k b ab).2 hm.size⟩
 . by_cases i6:j=i
   . have n_:k≠i:=λe=>n' (i6.trans e.symm)
     simp only[if_pos i6] at bn;simp only[if_neg n_] at hk;rcases(rS b bn).2 with c3|c3
     . exact aB i k b (λe=>n_ e.symm) c3 hk
     . have:=(ag k b hk).2;omega
   . simp only[if_neg i6] at bn;by_cases n_:k=i
     . simp only[if_pos n_] at hk;rcases(rS b hk).2 with c3|c3
       . exact aB j i b i6 bn c3
       . have:=(ag j b bn).2;omega
     . simp only[if_neg n_] at hk;exact aB j k b n' bn hk
theorem Sep.new{A:dq R}{F:Nat->Prop}(h:Sep L kl w)(fo:∀b,R b->b<w.heap.size)(hm:Ext w an)(bg:A.p F an)(br:∀b,F b->kl b/\w.heap.size<=b/\b<an.heap.size):Sep (L++[A]) kl an:=by
 obtain⟨fh,h1,ag,aB⟩:=h;refine⟨λk=>if k=L.length then F else fh k,λk B ft=>?_,λk b ab=>?_,λj k b n' bn hk=>?_⟩
 . by_cases hk:k=L.length
   . subst hk;rw[List.getElem?_append_right (Nat.le_refl _)] at ft;simp only[Nat.sub_self,List.getElem?_cons_zero,Option.some.injEq] at ft;subst ft;simp only[if_true];exact bg
   . simp only[if_neg hk];have hN:=(List.getElem?_eq_some_iff.1 ft).1;simp only[List.length_append,List.length_cons,List.length_nil] at hN;rw[List.getElem?_append_left aa] at ft;exact B.keep (h1 k B ft) hm (λb ab ah=>ah) λ_ _ ah=>ah
 . by_cases hk:k=L.length
   . simp only[if_pos hk] at ab;exact⟨⟨(br b ab).1,λa'=>by have:=fo b a';have:=(br b ab).2.1;omega⟩,(br b ab).2.2⟩
   . simp only[if_neg hk] at ab;exact⟨(ag k b ab).1,Nat.lt_of_lt_of_le (ag k b ab).2 hm.size⟩
 . by_cases i6:j=L.length
   . have n_:k≠L.length:=λe=>n' (i6.trans e.symm)
     simp only[if_pos i6] at bn;simp only[if_neg n_] at hk;have:=(ag k b hk).2;have:=(br b bn).2.1;omega
   . simp only[if_neg i6] at bn;by_cases n_:k=L.length
     . simp only[if_pos n_] at hk;have:=(ag j b bn).2;have:=(br b hk).2.1;omega
     . simp only[if_neg n_] at hk;exact aB j k b n' bn hk
theorem TB{α:Type}{L:List α}:∀(is:List Nat) (k:Nat),(∀i∈is,i<L.length)->(is.filterMap λi=>L[i]?)[k]?=(is[k]?).bind λi=>L[i]?
 | [],k,_=>by simp
 | i::is,0,h=>by
  have:=h i di
  simp[List.getElem?_eq_getElem this]
 | i::is,k+1,h=>by
  have:=h i di
  rw[List.filterMap_cons,List.getElem?_eq_getElem this]
  simp only[List.getElem?_cons_succ]
  exact TB is k λj bn=>h j (by simp[bn])
theorem Sep.yW(is:List Nat)(h:Sep L kl w)(bk:(is.all λi=>decide (i<L.length))=true)(aN:is.Nodup):Sep (is.filterMap λi=>L[i]?) kl w:=by
 obtain⟨fh,h1,ag,aB⟩:=h;have HU:∀i∈is,i<L.length:=λi ar=>of_decide_eq_true (List.all_eq_true.1 bk i ar)
 refine⟨λk b=>∃i,is[k]?=some i/\fh i b,λk B ft=>?_,λk b ab=>?_,λj k b n' bn hk=>?_⟩
 . rw[TB is k HU] at ft;obtain⟨i,ar,ft⟩:=Option.bind_eq_some_iff.1 ft
   have e:(λb=>∃i,is[k]?=some i/\fh i b)=fh i:=by
    funext b
    rw[ar]
    exact propext ⟨λ⟨j,bn,ab⟩=>by cases bn;exact ab,λab=>⟨i,rfl,ab⟩⟩
   show B.p (λb=>∃i,is[k]?=some i/\fh i b) w;rw[e];exact h1 i B ft
 . obtain⟨i,_,ab⟩:=ab;exact ag i b ab
 . obtain⟨i,ar,ER⟩:=bn;obtain⟨RO,uY,adF⟩:=hk;refine aB i RO b (λe=>?_) ER adF;subst e;obtain⟨d',q2⟩:=List.getElem?_eq_some_iff.1 ar;obtain⟨fF,gA⟩:=List.getElem?_eq_some_iff.1 uY;exact n' ((List.getElem_inj aN).1 (q2.trans gA.symm))
theorem Sep.imp{i:Nat}{A A':dq R}(h:Sep L kl w)(fo:∀b,R b->b<w.heap.size)(ar:L[i]?=some A)(bg:∀F,A.p F w->A'.p F w):Sep (L.set i A') kl w:=by
 obtain⟨F,h1,ag,k⟩:=h.act fo ar;exact k w F A' (Mod.refl _ _) (bg F h1) λb ab=>⟨(ag b ab).2,.inl ab⟩
theorem Sep.two{i j:Nat}{A B:dq R}(h:Sep L kl w)(ar:L[i]?=some A)(bn:L[j]?=some B)(aN:i≠j):∃F G,A.p F w/\B.p G w/\(∀b,G b->¬ F b):=by
 obtain⟨fh,h1,ag,aB⟩:=h;exact⟨fh i,fh j,h1 i A ar,h1 j B bn,λb ab ah=>aB i j b aN ah ab⟩
end
def bl{R:Nat->Prop}(L:List (dq R)):dq R:=⟨λF w=>Sep L F w,λh hm br fo=>h.keep hm (λb ab _=>br b ab) fo⟩
theorem Sep.close{R:Nat->Prop}{L1 L2:List (dq R)}{kl:Nat->Prop}{w:World}(h:Sep (L1++L2) kl w):Sep (L1++[bl L2]) kl w:=by
 obtain⟨fh,h1,ag,aB⟩:=h;refine⟨λk b=>if k<L1.length then fh k b else k=L1.length/\∃j,fh (L1.length+j) b,λk B ft=>?_,λk b ab=>?_,λj k b n' bn hk=>?_⟩
 . by_cases hk:k<L1.length
   . simp only[if_pos hk];rw[List.getElem?_append_left hk] at ft;exact h1 k B (by rw[List.getElem?_append_left hk];exact ft)
   . have hN:=(List.getElem?_eq_some_iff.1 ft).1;simp only[List.length_append,List.length_cons,List.length_nil] at hN;have rG:k=L1.length:=(by omega);subst rG;rw[List.getElem?_append_right (Nat.le_refl _)] at ft;simp only[Nat.sub_self,List.getElem?_cons_zero,Option.some.injEq] at ft;subst ft;simp only[Nat.lt_irrefl,if_false,true_and];exact⟨λj=>fh (L1.length+j),λj A bg=>h1 _ A (by rw[List.getElem?_append_right aa,Nat.add_sub_cancel_left];exact bg),λj b ab=>⟨⟨⟨j,ab⟩,(ag _ b ab).1.2⟩,(ag _ b ab).2⟩,λi j b m'=>aB _ _ b aa⟩
 . by_cases hk:k<L1.length
   . simp only[if_pos hk] at ab;exact ag k b ab
   . simp only[if_neg hk] at ab;obtain⟨_,j,ab⟩:=ab;exact ag _ b ab
 . by_cases ES:j<L1.length
   . simp only[if_pos ES] at bn;by_cases rG:k<L1.length
     . simp only[if_pos rG] at hk;exact aB j k b n' bn hk
     . simp only[if_neg rG] at hk;obtain⟨_,m,hk⟩:=hk;exact aB j _ b aa bn hk
   . simp only[if_neg ES] at bn;obtain⟨e,m,bn⟩:=bn;by_cases rG:k<L1.length
     . simp only[if_pos rG] at hk;exact aB _ k b aa bn hk
     . simp only[if_neg rG] at hk;exact n' (e.trans hk.1.symm)
theorem Sep.open{R:Nat->Prop}{L1 L2:List (dq R)}{kl:Nat->Prop}{w:World}(h:Sep (L1++[bl L2]) kl w):Sep (L1++L2) kl w:=by
 obtain⟨fh,h1,ag,aB⟩:=h;obtain⟨TC,g1,g2,g3⟩:=h1 L1.length (bl L2) (by rw[List.getElem?_append_right (Nat.le_refl _)];simp);refine⟨λk=>if k<L1.length then fh k else TC (k-L1.length),λk B ft=>?_,λk b ab=>?_,λj k b n' bn hk=>?_⟩
 . by_cases hk:k<L1.length
   . simp only[if_pos hk];rw[List.getElem?_append_left hk] at ft;exact h1 k B (by rw[List.getElem?_append_left hk];exact ft)
   . simp only[if_neg hk];rw[List.getElem?_append_right aa] at ft;exact g1 _ B ft
 . by_cases hk:k<L1.length
   . simp only[if_pos hk] at ab;exact ag k b ab
   . simp only[if_neg hk] at ab;exact⟨(ag _ b (g2 _ b ab).1.1).1,(g2 _ b ab).2⟩
 . by_cases ES:j<L1.length
   . simp only[if_pos ES] at bn;by_cases rG:k<L1.length
     . simp only[if_pos rG] at hk;exact aB j k b n' bn hk
     . simp only[if_neg rG] at hk;exact aB j L1.length b aa bn (g2 _ b hk).1.1
   . simp only[if_neg ES] at bn;by_cases rG:k<L1.length
     . simp only[if_pos rG] at hk;exact aB L1.length k b aa (g2 _ b bn).1.1 hk
     . simp only[if_neg rG] at hk;exact g3 _ _ b aa bn hk
section
variable {R:Nat->Prop}
def ay(b:Nat)(cs:List Value)(e:TypeId):dq R:=⟨λF w=>du w b cs e/\F b,λh hm br _=>⟨h.1.keep hm (br b h.2),h.2⟩⟩
def aS{α:Type}(enc:α->List Value)(e:TypeId)(sz:Nat)(v:Value)(l:List α):dq R:=
 ⟨λF w=>∃g,Acc enc e sz w g v l/\∀b,b+1=g->F b,λ⟨g,h1,ag⟩ hm br _=>⟨g,h1.keep hm λb ab=>br b (ag b ab.symm),ag⟩⟩
def fe{α:Type}(enc:α->List Value)(vs:List (Value×List α)):dq R:=
 ⟨λF w=>∀x∈vs,aq enc w (λb=>F b\/R b) x.1 x.2,λh hm br fo x ah=>(h x ah).keep hm λb ab=>ab.elim (br b) (fo b)⟩
def lA{α β:Type}[DecidableEq α](key:α->Value)(val:β->Value)(b:Nat)(m:List (α×β)):dq R:=
 ⟨λF w=>nk key val w b m/\F b,λ{F w an M} h hm br _=>⟨by
  obtain⟨⟨es,c,h1,ag⟩,ab⟩:=h
  exact⟨es,c,hm.keep _ _ h1 (br b ab),ag⟩,h.2⟩⟩
def nN{α:Type}(A:α->dq R):dq R:=⟨λF w=>∃a,(A a).p F w,λ⟨a,h⟩ hm br fo=>⟨a,(A a).keep h hm br fo⟩⟩
def pA(P:Prop)(A:dq R):dq R:=⟨λF w=>P/\A.p F w,λh hm br fo=>⟨h.1,A.keep h.2 hm br fo⟩⟩
def wu:dq R:=⟨λ_ _=>True,λ_ _ _ _=>trivial⟩
end
theorem Mm{F:Nat->Prop}{b:Nat}{w an:World}(hm:Mod (ca (b+1)) w an)(ab:F b):Mod F w an:=hm.weaken λsr yJ _=>by
 have e:sr=b:=by unfold ca at yJ;omega
 rw[e];exact ab
structure au(R bV:Nat->Prop)(w0 w:World)(L:List (dq R)):Prop where
 mod:Mod bV w0 w
 wv:∀b,R b->b<w0.heap.size/\¬ bV b
 sep:Sep L (λb=>bV b\/w0.heap.size<=b) w
section
variable {R bV:Nat->Prop} {w0 w an:World} {L:List (dq R)} {i j:Nat} {A B:dq R}
theorem au.ug(h:au R bV w0 w L):∀b,R b->b<w.heap.size:=λb ab=>Nat.lt_of_lt_of_le (h.wv b ab).1 h.mod.size
theorem au.start(w0:World)(fo:∀b,R b->b<w0.heap.size):au R (λ_=>False) w0 w0 []:=⟨Mod.refl _ _,λb ab=>⟨fo b ab,id⟩,⟨λ_ _=>False,λi A h=>by simp at h,λ_ _ h=>h.elim,λ_ _ _ _ h=>h.elim⟩⟩
theorem au.fS(w0:World):au (λ_=>False) (λ_=>False) w0 w0 []:=au.start w0 λ_ h=>h.elim
theorem au.ht{F:Nat->Prop}(bg:A.p F w0)(br:∀b,F b->b<w0.heap.size/\¬ R b)(fo:∀b,R b->b<w0.heap.size):au R F w0 w0 [A]:=⟨Mod.refl _ _,λb ab=>⟨fo b ab,λh=>(br b h).2 ab⟩,⟨λi b=>i=0/\F b,λi B h=>by
 cases i with
 | zero =>
  simp only[List.getElem?_cons_zero,Option.some.injEq] at h
  subst h
  simpa using bg
 | succ i=>simp at h,λi b h=>⟨⟨.inl h.2,(br b h.2).2⟩,(br b h.2).1⟩,λi j b m' h1 ag=>m' (h1.1.trans ag.1.symm)⟩⟩
theorem au.ext(h:au R bV w0 w L)(hm:Ext w an):au R bV w0 an L:=⟨h.mod.ext hm,h.wv,h.sep.keep hm (λ_ _ _ x=>x) λ_ _ x=>x⟩
theorem au.get(h:au R bV w0 w L)(ar:L[i]?=some A):∃F,A.p F w/\∀b,F b->b<w.heap.size:=by
 obtain⟨fh,h1,ag,_⟩:=h.sep;exact⟨fh i,h1 i A ar,λb ab=>(ag i b ab).2⟩
theorem au.act(h:au R bV w0 w L)(ar:L[i]?=some A):∃F,A.p F w/\(∀b,F b->((bV b\/w0.heap.size<=b)/\¬ R b)/\b<w.heap.size)/\∀(an:World) (F':Nat->Prop) (A':dq R),Mod F w an->A'.p F' an->(∀b,F' b->b<an.heap.size/\(F b\/w.heap.size<=b))->au R bV w0 an (L.set i A'):=by
 obtain⟨F,h1,ag,k⟩:=h.sep.act h.ug ar;refine⟨F,h1,ag,λan F' A' hm EP rS=>⟨h.mod.then hm λb ab bk=>(ag b ab).1.1.resolve_right aa,h.wv,k an F' A' hm EP λb ab=>⟨(rS b ab).1,(rS b ab).2.imp id λab=>⟨ab,.inr (Nat.le_trans h.mod.size ab)⟩⟩⟩⟩
theorem au.Cy(h:au R bV w0 w L)(ar:L[i]?=some A)(bn:L[j]?=some B)(aN:i≠j):∃F G,A.p F w/\B.p G w/\(∀b,G b->¬ F b)/\(∀b,F b->((bV b\/w0.heap.size<=b)/\¬ R b)/\b<w.heap.size)/\(∀b,G b->b<w.heap.size)/\∀(an:World) (F':Nat->Prop) (A':dq R),Mod F w an->A'.p F' an->(∀b,F' b->b<an.heap.size/\(F b\/w.heap.size<=b))->au R bV w0 an (L.set i A'):=by
 obtain⟨fh,h1,ag,aB⟩:=h.sep;let kl:Nat->Prop:=λb=>bV b\/w0.heap.size<=b
 refine⟨fh i,fh j,h1 i A ar,h1 j B bn,λb ab ah=>aB i j b aN ah ab,ag i,λb ab=>(ag j b ab).2,λan F' A' hm EP rS=>⟨h.mod.then hm λb ab bk=>(ag i b ab).1.1.resolve_right aa,h.wv,⟨λk=>if k=i then F' else fh k,λk B ft=>?_,λk b ab=>?_,λj k b n' bn hk=>?_⟩⟩⟩
 . by_cases hk:k=i
   . subst hk;rw[List.getElem?_set_self (List.getElem?_eq_some_iff.1 ar).1] at ft;simp only[if_true];cases ft;exact EP
   . rw[List.getElem?_set_ne (λe=>hk e.symm)] at ft;simp only[if_neg hk];exact B.keep (h1 k B ft) hm (λb ab ah=>aB k i b hk ab ah) λb ab ah=>(ag i b ah).1.2 ab
 . by_cases hk:k=i
   . subst hk;simp only[if_true] at ab;obtain⟨bE,c3⟩:=rS b ab;exact⟨c3.elim (λh=>(ag k b h).1) (λab=>⟨.inr (Nat.le_trans h.mod.size ab),λa'=>by have:=h.ug b a';omega⟩),bE⟩
   . simp only[if_neg hk] at ab;exact⟨(ag k b ab).1,Nat.lt_of_lt_of_le (ag k b ab).2 hm.size⟩
 . by_cases i6:j=i
   . have n_:k≠i:=λe=>n' (i6.trans e.symm)
     simp only[if_pos i6] at bn;simp only[if_neg n_] at hk;rcases(rS b bn).2 with c3|c3
     . exact aB i k b (λe=>n_ e.symm) c3 hk
     . have:=(ag k b hk).2;omega
   . simp only[if_neg i6] at bn;by_cases n_:k=i
     . simp only[if_pos n_] at hk;rcases(rS b hk).2 with c3|c3
       . exact aB j i b i6 bn c3
       . have:=(ag j b bn).2;omega
     . simp only[if_neg n_] at hk;exact aB j k b n' bn hk
theorem au.new{F:Nat->Prop}(h:au R bV w0 w L)(hm:Ext w an)(bg:A.p F an)(br:∀b,F b->w.heap.size<=b/\b<an.heap.size):au R bV w0 an (L++[A]):=
 ⟨h.mod.ext hm,h.wv,h.sep.new h.ug hm bg λb ab=>⟨.inr (Nat.le_trans h.mod.size (br b ab).1),br b ab⟩⟩
theorem au.yW(is:List Nat)(h:au R bV w0 w L)(bk:(is.all λi=>decide (i<L.length))=true)(aN:is.Nodup):au R bV w0 w (is.filterMap λi=>L[i]?):=⟨h.mod,h.wv,h.sep.yW is bk aN⟩
theorem au.imp{A':dq R}(h:au R bV w0 w L)(ar:L[i]?=some A)(bg:∀F,A.p F w->A'.p F w):au R bV w0 w (L.set i A'):=⟨h.mod,h.wv,h.sep.imp h.ug ar bg⟩
theorem au.close{L1 L2:List (dq R)}(h:au R bV w0 w (L1++L2)):au R bV w0 w (L1++[bl L2]):=⟨h.mod,h.wv,h.sep.close⟩
theorem au.open{L1 L2:List (dq R)}(h:au R bV w0 w (L1++[bl L2])):au R bV w0 w (L1++L2):=⟨h.mod,h.wv,h.sep.open⟩
theorem au.fin(h:au R bV w0 w [A]):Mod bV w0 w/\∃F',A.p F' w/\∀b,F' b->b<w.heap.size/\(bV b\/w0.heap.size<=b):=by
 obtain⟨fh,h1,ag,_⟩:=h.sep;exact⟨h.mod,fh 0,h1 0 A rfl,λb ab=>⟨(ag 0 b ab).2,(ag 0 b ab).1.1⟩⟩
theorem au.Mn{α:Type}{A:α->dq R}(h:au R bV w0 w L)(ar:L[i]?=some (nN A)):∃a,au R bV w0 w (L.set i (A a)):=by
 obtain⟨F,⟨a,ax⟩,ag,k⟩:=h.act ar;exact⟨a,k w F (A a) (Mod.refl _ _) ax λb ab=>⟨(ag b ab).2,.inl ab⟩⟩
theorem au.fC{α:Type}{A:α->dq R}(h:au R bV w0 w L)(a:α)(ar:L[i]?=some (A a)):au R bV w0 w (L.set i (nN A)):=h.imp ar λF x=>⟨a,x⟩
theorem au.adG{b:Nat}{cs:List Value}{e:TypeId}(h:au R bV w0 w L)(ar:L[i]?=some (ay b cs e)):du w b cs e:=by
 obtain⟨F,h1,_⟩:=h.get ar;exact h1.1
theorem au.o9{b:Nat}{cs cs':List Value}{e:TypeId}(h:au R bV w0 w L)(ar:L[i]?=some (ay b cs e))(hm:Mod (ca (b+1)) w an)(hk:du an b cs' e):au R bV w0 an (L.set i (ay b cs' e)):=by
 obtain⟨F,h1,ag,k⟩:=h.act ar;exact k an F _ (Mm hm h1.2) ⟨hk,h1.2⟩ λb ab=>⟨Nat.lt_of_lt_of_le (ag b ab).2 hm.size,.inl ab⟩
theorem au.cW{b:Nat}{cs:List Value}{e:TypeId}(h:au R bV w0 w L)(hm:Ext w an)(ab:b=w.heap.size)(hk:du an b cs e):au R bV w0 an (L++[ay b cs e]):=
 h.new (F:=λx=>x=b) hm ⟨hk,rfl⟩ λx ah=>by have:=hk.lt;omega
theorem au.map{α β:Type}[DecidableEq α]{key:α->Value}{val:β->Value}{b:Nat}{m:List (α×β)}(h:au R bV w0 w L)(ar:L[i]?=some (lA key val b m)):nk key val w b m:=by
 obtain⟨F,h1,_⟩:=h.get ar;exact h1.1
theorem au.l_{α β:Type}[DecidableEq α]{key:α->Value}{val:β->Value}{b:Nat}{m s6:List (α×β)}(h:au R bV w0 w L)(ar:L[i]?=some (lA key val b m))(hm:Mod (ca (b+1)) w an)(hk:nk key val an b s6):au R bV w0 an (L.set i (lA key val b s6)):=by
 obtain⟨F,h1,ag,k⟩:=h.act ar;exact k an F _ (Mm hm h1.2) ⟨hk,h1.2⟩ λb ab=>⟨Nat.lt_of_lt_of_le (ag b ab).2 hm.size,.inl ab⟩
theorem au.TD{α β:Type}[DecidableEq α]{key:α->Value}{val:β->Value}{b:Nat}{m:List (α×β)}(h:au R bV w0 w L)(hm:Ext w an)(ab:b=w.heap.size)(hk:nk key val an b m):au R bV w0 an (L++[lA key val b m]):=
 h.new (F:=λx=>x=b) hm ⟨hk,rfl⟩ λx ah=>by have:=hk.lt;omega
section
variable {α:Type} {enc:α->List Value} {e:TypeId} {sz:Nat} {v:Value} {l:List α}
theorem Acc.uniq{g fy:Nat}{an:World}(h:Acc enc e sz w g v l){nG:TypeId}{adH:Nat}{j2:List α}(gO:Acc enc nG adH an fy v j2):g=fy:=by
 rcases h with ⟨h1,_,ag⟩|⟨b,cap,cur,bH,h1,_⟩<;>rcases gO with ⟨bF,_,cB⟩|⟨sr,arY,arZ,tj,bF,_⟩
 . omega
 . rw[h1] at bF;simp at bF
 . rw[h1] at bF;simp at bF
 . rw[h1] at bF;simp only[Value.slice.injEq,Option.some.injEq,Addr.mk.injEq] at bF;omega
theorem au.adI(h:au R bV w0 w L)(ar:L[i]?=some (aS enc e sz v l)):∃g,Acc enc e sz w g v l/\g<=w.heap.size/\∀(an:World) (fy:Nat) (gS:Value) (j2:List α),Mod (ca g) w an->Acc enc e sz an fy gS j2->(fy=g\/w.heap.size<fy)->au R bV w0 an (L.set i (aS enc e sz gS j2)):=by
 obtain⟨F,⟨g,h1,aB⟩,ag,k⟩:=h.act ar;refine⟨g,h1,h1.lt,λan fy gS j2 hm ax aU=>k an (λb=>b+1=fy) _ (hm.weaken λb ab _=>aB b ab) ⟨fy,ax,λb ab=>ab⟩ λb ab=>⟨?_,?_⟩⟩
 . have:=ax.lt;omega
 . rcases aU with aU|aU
   . exact .inl (aB b aa)
   . exact .inr aa
theorem au.fD{g:Nat}(h:au R bV w0 w L)(hm:Ext w an)(ax:Acc enc e sz an g v l)(aU:g=0\/w.heap.size<g):au R bV w0 an (L++[aS enc e sz v l]):=
 h.new (F:=λb=>b+1=g) hm ⟨g,ax,λb ab=>ab⟩ λb ab=>by have:=ax.lt;omega
theorem au.ne{b g:Nat}{cs:List Value}{nG:TypeId}(h:au R bV w0 w L)(ar:L[i]?=some (aS enc e sz v l))(bn:L[j]?=some (ay b cs nG))(m':i≠j)(ax:Acc enc e sz w g v l):b+1≠g:=by
 obtain⟨F,G,⟨fy,h1,ag⟩,aB,bE⟩:=h.sep.two ar bn m';have:=ax.uniq h1;subst this;intro e;exact bE b aB.2 (ag b e)
theorem au.b9{vs:List (Value×List α)}{k:Nat}(h:au R bV w0 w L)(ar:L[i]?=some (fe enc vs))(hk:vs[k]?=some (v,l)):aq enc w (dr 0 w.heap.size) v l:=by
 obtain⟨F,h1,ag⟩:=h.get ar;exact(h1 _ (List.mem_of_getElem? hk)).mono λb ab=>⟨Nat.zero_le _,ab.elim (ag b) (h.ug b)⟩
theorem au.TE{vs:List (Value×List α)}{k:Nat}(h:au R bV w0 w L)(ar:L[i]?=some (fe enc vs))(hk:vs[k]?=some (v,l)):∃F:Nat->Prop,aq enc w F v l/\∀gS j2,aq enc w F gS j2->au R bV w0 w (L.set i (fe enc (vs++[(gS,j2)]))):=by
 obtain⟨F,h1,ag,jz⟩:=h.act ar;refine⟨λb=>F b\/R b,h1 _ (List.mem_of_getElem? hk),λgS j2 aT=>jz w F _ (Mod.refl _ _) (λx ah=>?_) λb ab=>⟨(ag b ab).2,.inl ab⟩⟩;rcases List.mem_append.1 ah with ah|ah
 . exact h1 x ah
 . simp only[List.mem_singleton] at ah;subst ah;exact aT
theorem au.ET(h:au R bV w0 w L)(hm:Ext w an)(aT:aq enc an (dr w.heap.size an.heap.size) v l):au R bV w0 an (L++[fe enc [(v,l)]]):=
 h.new (F:=dr w.heap.size an.heap.size) hm (λx ah=>by simp only[List.mem_singleton] at ah;subst ah;exact aT.mono λb ab=>.inl ab) λb ab=>ab
theorem au.hI{b:Nat}(h:au R bV w0 w L)(hm:Ext w an)(ab:b=w.heap.size)(cS:an.heap.size=w.heap.size+1)(aT:aq enc an (dr b (b+1)) v l):au R bV w0 an (L++[fe enc [(v,l)]]):=
 h.ET hm (aT.mono λx ah=>by unfold dr at *;omega)
theorem aq.jq{F:Nat->Prop}(h:aq enc w F v l){P:Program}{t:TypeId}{by_:Nat}{g:Bool}{z:List Value}(a8:P.underlying t=some (.slice e))(he:eu P e=some (g,sz,by_,z))(dM:∀x,(enc x).length=sz){k:IntKind}{n:Int}(i:Nat)(aN:n=(i:Int))(ar:i<l.length):
 ∃x b off,l[i]?=some x/\(∀w,(Instr.indexAt t v (.int k n)).run P w=.ok (ptr b off) w)/\F b/\Row w b off (enc x):=by
 obtain⟨b,off,h1,ag,aB⟩:=h.at a8 he dM (k:=k) i aN ar;exact⟨l[i],b,off,by simp,h1,ag,aB⟩
theorem aq.rowAt{F:Nat->Prop}(h:aq enc w F v l){P:Program}{t:TypeId}{by_:Nat}{g:Bool}{z:List Value}(a8:P.underlying t=some (.slice e))(he:eu P e=some (g,sz,by_,z))(dM:∀x,(enc x).length=sz){k:IntKind}{n:Int}(i:Nat)(aN:n=(i:Int)){x:α}{b off:Nat}(ah:l[i]?=some x)
 (a':∀w,(Instr.indexAt t v (.int k n)).run P w=.ok (ptr b off) w):Row w b off (enc x):=by
 obtain⟨adJ,sr,R_,tk,LO,_,rT⟩:=h.jq a8 he dM (k:=k) i aN (List.getElem?_eq_some_iff.1 ah).1;have fV:=(a' w).symm.trans (LO w);simp only[ptr,Result.ok.injEq,Value.pointer.injEq,Option.some.injEq,Addr.mk.injEq,and_true] at fV;obtain⟨rfl,rfl⟩:=fV;rw[ah] at tk;cases tk;exact rT
theorem au.freeze(h:au R bV w0 w L)(ar:L[i]?=some (aS enc e sz v l)):au R bV w0 w (L.set i (fe enc [(v,l)])):=
 h.imp ar λF ah x tk=>by
  obtain⟨g,h1,ag⟩:=ah
  simp only[List.mem_singleton] at tk
  subst tk
  refine h1.b9.mono λb ab=>?_
  rcases h1 with ⟨_,_,bE⟩|⟨sr,cap,cur,bH,_⟩
  . unfold dr at ab;omega
  . exact .inl (ag b (by unfold dr at ab;omega))
theorem au.adK{G:Nat->Prop}(h:au R bV w0 w L)(aT:aq enc w0 G v l)(ch:∀b,G b->R b):au R bV w0 w (L++[fe enc [(v,l)]]):=
 h.new (F:=λ_=>False) (Mod.refl _ _) (λx ah=>by
  simp only[List.mem_singleton] at ah
  subst ah
  exact(aT.keep h.mod λb ab=>(h.wv b (ch b ab)).2).mono λb ab=>.inr (ch b ab)) λ_ ab=>ab.elim
end
end
section
variable {w0 w:World} {R:Nat->Prop} {TF:List (dq (λ_=>False))} {L:List (dq R)} {i:Nat} {α:Type} {enc:α->List Value} {e:TypeId} {sz:Nat} {v:Value} {l:List α}
theorem au.HV{vs:List (Value×List α)}{k:Nat}(h:au (λ_=>False) (λ_=>False) w0 w TF)(ar:TF[i]?=some (fe enc vs))(hk:vs[k]?=some (v,l)):aq enc w (dr w0.heap.size w.heap.size) v l:=by
 obtain⟨F,h1,ag,_⟩:=h.act ar;exact(h1 _ (List.mem_of_getElem? hk)).mono λb ab=>⟨(ag b (ab.resolve_right id)).1.1.resolve_left λx=>x,(ag b (ab.resolve_right id)).2⟩
theorem au.tl(h:au R (λ_=>False) w0 w L)(ar:L[i]?=some (aS enc e sz v l)):∃g,Acc enc e sz w g v l/\(g=0\/w0.heap.size<g):=by
 obtain⟨F,⟨g,h1,aB⟩,ag,_⟩:=h.act ar;refine⟨g,h1,?_⟩;rcases(by omega:g=0\/0<g) with aU|aU
 . exact .inl aU
 . have:=(ag (g-1) (aB _ aa)).1.1.resolve_left λx=>x
   exact .inr aa
theorem au.adL(h:au R (λ_=>False) w0 w L)(ar:L[i]?=some (aS enc e sz v l)):aq enc w (dr w0.heap.size w.heap.size) v l:=by
 obtain⟨g,h1,ag⟩:=h.tl ar;exact h1.fresh ag
end
theorem au.out{R bV G:Nat->Prop}{w0 w:World}{L:List (dq R)}{α:Type}{enc:α->List Value}{v:Value}{l:List α}(h:au R bV w0 w L)(aT:aq enc w0 G v l)(ch:∀b,G b->¬ bV b):aq enc w G v l:=aT.keep h.mod ch
end Go.aF
namespace Go.aF
open Go
def qw{R:Nat->Prop}{α:Type}(rR e:TypeId)(sz:Nat)(enc:α->List Value)(e_:Nat)(l:List α):dq R:=nN λv:Value=>bl [ay e_ [v] rR,aS enc e sz v l]
end Go.aF
set_option linter.unusedSectionVars false
namespace Go.aF
open Go
section
variable {P:Program} {E:Env} {C:World->Prop} {d:Option Tmp} {ty:TypeId} {pos:String} {af:Array Edge} {gd:Option (Nat×Bool)} {w:World} {K:Value->World->Prop}
theorem bz.Cz{x y:Operand}{xt yt:TypeId}{p q:Int}(r:Int)(ah:aP E x=some (.int .i32 p))(aD:aP E y=some (.int .i32 q))(a':0<=p/\p<=2147483647/\1<=q/\p / q=r):bz P ⟨d,.binOp .quo xt x y yt,ty,pos,af,gd⟩ E C (.int .i32 r):=by
 have h:=bz.quo (P:=P) (C:=C) (d:=d) (xt:=xt) (yt:=yt) (ty:=ty) (pos:=pos) (af:=af) (gd:=gd) ah aD aa
 have e:IntKind.i32.wrap (p.tdiv q)=r:=by
  rw[Int.tdiv_eq_ediv_of_nonneg a'.1,a'.2.2.2]
  have bH:=Int.ediv_nonneg a'.1 (by omega:0<=q)
  have h1:=Int.ediv_le_self q a'.1
  exact IntWalk.i32_in _ aa
 rw[e] at h;exact h
theorem adM{b off:Nat}{l:aj}(a':Row w b off (l.flatMap en))(j:Nat)(bn:j<l.length):w.cell? ((⟨b,off,none⟩:Addr).add j)=some (.int .u8 (l[j].toNat:Int)):=by
 have bC:l.flatMap en=l.map λc=>Value.int .u8 (c.toNat:Int):=by
  clear a' bn
  induction l with
  | nil=>rfl
  | cons a l cc=>simp[en,cc]
 rw[add_lit];exact a'.cell j _ (by rw[bC,List.getElem?_map,List.getElem?_eq_getElem bn];rfl)
theorem gF.AQ{s t e:TypeId}{x:Operand}{v:Value}{F:Nat->Prop}{l:aj}(aT:P.underlying s=some (.slice e))(he:P.underlying e=some (.int .u8))(a8:P.underlying t=some .string)(ah:aP E x=some v)(h:aq en w F v l)(eC:K (aE l) w):
 gF P ⟨d,.convert s t x,ty,pos,af,gd⟩ E w K:=λa ax=>by
 obtain⟨AR,cap,rfl,ag,aB,bE⟩:=h
 have a':(convert s t (.slice AR l.length cap)).run P w=.ok (aE l) w:=by
  rcases bE with rfl|⟨b,off,rfl,_,a'⟩
  . show(convert s t (.slice AR 0 cap)).run P w=_
    rw[run_convert_bytes_string w s t e AR 0 cap aT he a8]
    cases AR<;>simp[Conv.bytesToString,loadCells,loadCellsFrom,aE]<;>rfl
  . exact run_convert_bytes_back w s t e _ cap l aT he a8 (adM a')
 simp[execOp,ax.aP ah,a',out]
 exact eC
end
end Go.aF
namespace Go.aF
open Go
def gG(n:Int):UInt8:=UInt8.ofNat (n % 256).toNat
theorem vb(n:Int):((gG n).toNat:Int)=n % 256:=by
 have bH:=Int.emod_nonneg n (by omega:(256:Int)≠0);unfold gG;rw[UInt8.toNat_ofNat'];omega
theorem adN(n:Nat):gG (n:Int)=UInt8.ofNat n:=by
 apply UInt8.toNat_inj.1;have:=vb (n:Int);rw[UInt8.toNat_ofNat'];omega
section
variable {P:Program} {E:Env} {C:World->Prop} {d:Option Tmp} {ty:TypeId} {pos:String} {af:Array Edge} {gd:Option (Nat×Bool)} {w:World} {K:Value->World->Prop}
theorem bz.sx{s t:TypeId}{x:Operand}{k:IntKind}{p:Int}(aT:(P.underlying s).isSome=true)(a8:P.underlying t=some (.int .u8))(ah:aP E x=some (.int k p)):bz P ⟨d,.convert s t x,ty,pos,af,gd⟩ E C (.int .u8 ((gG p).toNat:Int)):=by
 have h:=bz.rJ (P:=P) (C:=C) (d:=d) (ty:=ty) (pos:=pos) (af:=af) (gd:=gd) aT a8 ah;have e:IntKind.u8.wrap p=((gG p).toNat:Int):=(by rw[vb,IntKind.wrap_u8]);rw[e] at h;exact h
end
end Go.aF
namespace Go.aF
open Go
theorem xE{a b:Nat}(ax:a<4294967296)(ab:b<4294967296):a ^^^ b<4294967296:=Nat.xor_lt_two_pow (n:=32) ax ab
theorem HW{a:Nat}(ax:a<4294967296):4294967295 ^^^ a=4294967295-a:=by
 have h:(4294967295 ^^^ a)=(BitVec.ofNat 32 4294967295 ^^^ BitVec.ofNat 32 a).toNat:=by
  rw[BitVec.toNat_xor,BitVec.toNat_ofNat,BitVec.toNat_ofNat,Nat.mod_eq_of_lt (by omega:a<2 ^ 32)]
 have ag:BitVec.ofNat 32 4294967295=BitVec.allOnes 32:=rfl;rw[h,ag,BitVec.allOnes_xor,BitVec.toNat_not,BitVec.toNat_ofNat,Nat.mod_eq_of_lt (by omega:a<2 ^ 32)]
theorem adO{a b:Nat}(ab:b<256):a*256 ||| b=a*256+b:=by
 have:=Nat.shiftLeft_add_eq_or_of_lt (i:=8) (b:=b) aa a;rw[Nat.shiftLeft_eq] at this;exact this.symm
section
variable {P:Program} {E:Env} {C:World->Prop} {d:Option Tmp} {ty:TypeId} {pos:String} {af:Array Edge} {gd:Option (Nat×Bool)} {xt yt:TypeId} {x y:Operand}
theorem bz.Mo{a b:Nat}(ah:aP E x=some (.int .u32 (a:Int)))(aD:aP E y=some (.int .u32 (b:Int)))(ax:a<4294967296)(ab:b<4294967296):bz P ⟨d,.binOp .xor xt x y yt,ty,pos,af,gd⟩ E C (.int .u32 ((a ^^^ b:Nat):Int)):=λs aT w _=>by
 have h:=u32_xor_nat a b ax ab
 simp[execOp,aT.aP ah,aT.aP aD,eqGuard,Go.binOp,intBits_xor,h]
theorem bz.TG{a b:UInt8}(ah:aP E x=some (.int .u8 (a.toNat:Int)))(aD:aP E y=some (.int .u8 (b.toNat:Int))):bz P ⟨d,.binOp .xor xt x y yt,ty,pos,af,gd⟩ E C (.int .u8 ((a ^^^ b).toNat:Int)):=λs aT w _=>by
 have h:=u8_xor_nat a.toNat b.toNat a.toNat_lt b.toNat_lt
 rw[<-UInt8.toNat_xor] at h
 simp[execOp,aT.aP ah,aT.aP aD,eqGuard,Go.binOp,intBits_xor,h]
theorem bz.TH{p q:Int}(r:Int)(ah:aP E x=some (.int .u64 p))(aD:aP E y=some (.int .u64 q))(a':p+q=r/\0<=r/\r<=18446744073709551615):bz P ⟨d,.binOp .add xt x y yt,ty,pos,af,gd⟩ E C (.int .u64 r):=by
 have h:=bz.add (P:=P) (C:=C) (d:=d) (xt:=xt) (yt:=yt) (ty:=ty) (pos:=pos) (af:=af) (gd:=gd) ah aD;rw[IntWalk.u64_in _ aa,a'.1] at h;exact h
theorem bz.adP{a:Nat}(ah:aP E x=some (.int .u32 (a:Int)))(aD:aP E y=some (.int .u32 1))(ax:a<4294967296):bz P ⟨d,.binOp .and xt x y yt,ty,pos,af,gd⟩ E C (.int .u32 ((a % 2:Nat):Int)):=λs aT w _=>by
 have h:=u32_and_nat a 1 ax aa
 rw[Nat.and_one_is_mod] at h
 have gO:bits .and .u32 (a:Int) 1=((a % 2:Nat):Int):=h
 simp[execOp,aT.aP ah,aT.aP aD,eqGuard,Go.binOp,intBits_and,gO]
theorem bz.TI{a b:Nat}(ah:aP E x=some (.int .u64 ((a*256:Nat):Int)))(aD:aP E y=some (.int .u64 (b:Int)))(ax:a*256<18446744073709551616)(ab:b<256):bz P ⟨d,.binOp .or xt x y yt,ty,pos,af,gd⟩ E C (.int .u64 ((a*256+b:Nat):Int)):=λs aT w _=>by
 have h:=u64_or_nat (a*256) b ax aa
 rw[adO ab] at h
 simp[execOp,aT.aP ah,aT.aP aD,eqGuard,Go.binOp,intBits_or]
 simpa using h
theorem bz.HW{a:Nat}(ah:aP E x=some (.int .u32 (a:Int)))(ax:a<4294967296):bz P ⟨d,.unOp .xor xt x,ty,pos,af,gd⟩ E C (.int .u32 ((4294967295-a:Nat):Int)):=λs aT w _=>by
 have h:=u32_xor_nat 4294967295 a aa ax
 rw[aF.HW ax] at h
 have gO:bits .xor .u32 4294967295 (a:Int)=((4294967295-a:Nat):Int):=h
 simp[execOp,aT.aP ah,Op.unary,intBits_xor,IntKind.signed,IntKind.max]
 exact gO
theorem bz.Mp{k jz:IntKind}{p m:Int}(n:Nat)(ah:aP E x=some (.int k p))(aD:aP E y=some (.int jz m))(hm:m=(n:Int))(aN:n<=k.bits):bz P ⟨d,.binOp .shr xt x y yt,ty,pos,af,gd⟩ E C (.int k (p / 2 ^ n)):=λs aT w _=>by
 subst hm
 have h:=shift_shr k jz p (n:Int) aa aa
 simp[execOp,aT.aP ah,aT.aP aD,eqGuard,Go.binOp,h]
theorem bz.adQ{a b:Nat}(ah:aP E x=some (.int .u32 (a:Int)))(aD:aP E y=some (.int .u32 (b:Int)))(ab:b<=a)(ax:a<4294967296):bz P ⟨d,.binOp .sub xt x y yt,ty,pos,af,gd⟩ E C (.int .u32 ((a-b:Nat):Int)):=by
 have h:=bz.sub (P:=P) (C:=C) (d:=d) (xt:=xt) (yt:=yt) (ty:=ty) (pos:=pos) (af:=af) (gd:=gd) ah aD;rw[IntWalk.u32_in _ aa,show(a:Int)-(b:Int)=((a-b:Nat):Int) from by omega] at h;exact h
theorem bz.TJ{jz:IntKind}{a:Nat}(ah:aP E x=some (.int .u64 (a:Int)))(aD:aP E y=some (.int jz 8))(ax:a*256<18446744073709551616):bz P ⟨d,.binOp .shl xt x y yt,ty,pos,af,gd⟩ E C (.int .u64 ((a*256:Nat):Int)):=λs aT w _=>by
 have h:=shift_shl .u64 jz (a:Int) 8 aa b5
 have e:IntKind.u64.wrap ((a:Int)*2 ^ (8:Int).toNat)=((a*256:Nat):Int):=by
  rw[IntKind.wrap_u64]
  have:((a:Int)*2 ^ (8:Int).toNat)=((a*256:Nat):Int):=by simp
  rw[this];omega
 rw[e] at h
 simp[execOp,aT.aP ah,aT.aP aD,eqGuard,Go.binOp,h]
theorem bz.adR{a:Nat}(b:Nat)(ah:aP E x=some (.int .u32 (a:Int)))(aD:aP E y=some (.int .u32 (b:Int)))(ab:b≠0)(ax:a<4294967296):bz P ⟨d,.binOp .quo xt x y yt,ty,pos,af,gd⟩ E C (.int .u32 ((a / b:Nat):Int)):=by
 have h:=bz.quo (P:=P) (C:=C) (d:=d) (xt:=xt) (yt:=yt) (ty:=ty) (pos:=pos) (af:=af) (gd:=gd) ah aD aa
 have e:IntKind.u32.wrap ((a:Int).tdiv (b:Int))=((a / b:Nat):Int):=by
  rw[Int.tdiv_eq_ediv_of_nonneg aa,<-Int.natCast_ediv]
  have:=Nat.div_le_self a b
  generalize a / b=q at *
  exact IntWalk.u32_in _ aa
 rw[e] at h;exact h
end
end Go.aF
namespace Go.aF
open Go
section
variable {P:Program} {E:Env} {d:Option Tmp} {ty:TypeId} {pos:String} {af:Array Edge} {gd:Option (Nat×Bool)} {w:World} {K:Value->World->Prop}
theorem gF.adS{s e nG:TypeId}{x:Operand}{b n c:Nat}{cs:List Value}(aT:P.underlying s=some (.slice e))(he:P.underlying e=some (.int .u8))(ah:aP E x=some (.slice (some ⟨b,0,none⟩) n c))(ab:du w b cs nG)
 (eC:∀an,Mod (ca (b+1)) w an->an.heap.size=w.heap.size->Row an b 0 cs->K (.slice (some ⟨b,0,none⟩) n c) an):gF P ⟨d,.convert s s x,ty,pos,af,gd⟩ E w K:=λa ax=>by
 have yX:w.shape? b=some (nG,cs.length):=by
  unfold World.shape?
  rw[show w.heap[b]?=some (.cells cs.toArray nG (0,0)) from ab]
  simp
 have a':(convert s s (.slice (some ⟨b,0,none⟩) n c)).run P w=.ok (.slice (some ⟨b,0,none⟩) n c) (w.freeze ⟨b,cs.length,none⟩ 1):=by
  simp[convert,run_underlying aT,run_underlying he,markStringish,yX]
 have hF:(w.freeze ⟨b,cs.length,none⟩ 1).heap[b]?=some (.cells cs.toArray nG (cs.length,cs.length+1)):=by
  unfold World.freeze
  rw[if_neg b5]
  simp only[Array.getElem?_modify,if_true]
  rw[show w.heap[b]?=some (.cells cs.toArray nG (0,0)) from ab]
  rfl
 simp[execOp,ax.aP ah,a',out]
 refine eC _ ⟨rfl,rfl,rfl,?_,?_⟩ ?_ ?_
 . unfold World.freeze
   rw[if_neg b5]
   simp
 . intro sr o ee aN
   unfold World.freeze
   rw[if_neg b5]
   simp only[Array.getElem?_modify]
   rw[if_neg (λe=>aN (by unfold ca;omega))]
   exact ee
 . unfold World.freeze
   rw[if_neg b5]
   simp
 . intro i v cN
   unfold World.cell?
   simp only[Option.isSome_none,Bool.false_eq_true,if_false]
   rw[hF]
   simpa using cN
end
theorem aq.adT{α:Type}{enc:α->List Value}{w:World}{b:Nat}{l:List α}(h:Row w b 0 (l.flatMap enc))(n:Nat)(aN:n=l.length)(hm:n<=maxLen):aq enc w (dr b (b+1)) (.slice (some ⟨b,0,none⟩) n n) l:=
 ⟨some ⟨b,0,none⟩,n,by rw[aN],by omega,hm,.inr ⟨b,0,rfl,⟨Nat.le_refl _,by omega⟩,h⟩⟩
end Go.aF
namespace Go.ak
open Go.aF
theorem Mq(s:aj)(l:List aj):jh (s::l)=s.length+jh l:=by simp[jh]
theorem TK(a b:List aj):jh (a++b)=jh a+jh b:=by simp[jh]
theorem adU(p:aj)(l:List aj):jh (l.map (p++·))=l.length*p.length+jh l:=by
 induction l with
 | nil=>simp[jh]
 | cons s l cc=>simp only[List.map_cons,Mq,cc,List.length_append,List.length_cons,Nat.add_mul,Nat.one_mul];omega
theorem TL{p:aj}(hp:1<=p.length)(l:List aj):jh (eZ p l)+(eZ p l).length+jh (l9 p l)<=jh l:=by
 have h:=congrArg jh (EG p l);rw[TK,adU] at h;have:=Nat.mul_le_mul_left (eZ p l).length hp;omega
theorem TM(p:aj)(l:List aj):(eZ p l).length+(l9 p l).length=l.length:=by
 have h:=congrArg List.length (EG p l);rw[List.length_append,List.length_map] at h;exact h
theorem HX(l:List aj):jh (fI l)=jh l:=by
 cases l with
 | nil=>rfl
 | cons a r=>cases a<;>simp[fI,jh]
theorem HY(l:List aj):(fI l).length<=l.length:=by
 cases l with
 | nil=>simp[fI]
 | cons a r=>cases a<;>simp[fI]
def CA(gs:List (Nat×List aj)):Nat:=(gs.map λg=>jh g.2+1).sum
theorem TN:∀(n:Nat) (l:List aj),l.length<=n->gy l->(∀s∈l,s≠[])->CA (g_ l)<=jh l
 | _,[],_,_,_=>by simp[AD,CA]
 | 0,s::r,h,_,_=>by simp at h
 | n+1,s::r,aN,h,dL=>by
  have bk:=AB s r
  simp only[List.length_cons] at aN
  have aT:=dL s di
  have bC:=h.o7 s di
  have hp:dC s=eg (gb s):=(yQ aT ((yR aT).1 bC).1).2.symm
  have cc:=TN n (l9 (dC s) (s::r)) aa (h.more _) (λt a8=>dL t ((List.dropWhile_suffix _).subset a8))
  have h1:=TL (p:=dC s) (by rw[hp];exact SV _) (s::r)
  have ag:1<=(eZ (dC s) (s::r)).length:=by
   unfold eZ
   rw[List.takeWhile_cons,if_pos (AA s)];simp
  rw[Cp]
  unfold CA at cc ⊢
  simp only[List.map_cons,List.sum_cons]
  omega
theorem TO{add:c6->List aj->c6×Nat}:∀(gs:List (Nat×List aj)) (s:c6),(∀g∈gs,∀s,(add s g.2).1.length<=s.length+1+jh g.2)->(lQ add s gs).1.length<=s.length+CA gs
 | [],s,_=>by simp[lQ,CA]
 | g::gs,s,h=>by
  have h1:=h g di s
  have ag:=TO gs (add s g.2).1 (λfy tf=>h fy (by simp[tf]))
  show(lQ add (add s g.2).1 gs).1.length<=_
  unfold CA at ag ⊢
  simp only[List.map_cons,List.sum_cons]
  omega
theorem yY:∀(f:Nat) (s:c6) (aL:List aj),gy aL->(e3 f s aL).1.length<=s.length+1+jh aL
 | 0,s,aL,_=>by simp[e3];omega
 | f+1,s,aL,aU=>by
  unfold e3
  cases ar:s.findIdx? λx=>x.1==aL with
  | some i=>simp;omega
  | none =>
   simp only[List.length_set]
   have hd:=u9 aU
   have ok:=xA _ _ (Nat.le_refl _) hd.1 hd.2
   have h1:=TO (add:=e3 f) (g_ (fI aL)) (s++[(aL,[])]) (λg iO j0=>yY f j0 g.2 (ok.e9 g iO).2.2)
   have ag:=TN _ _ (Nat.le_refl _) hd.1 hd.2
   rw[HX] at ag
   simp only[List.length_append,List.length_cons,List.length_nil] at h1
   omega
theorem HZ{f:Nat}{s:c6}{aL:List aj}(hd:Deep f aL)(aU:gy aL)(dL:aL≠[])(aN:(names s).Nodup)(bX:wj s):wj (e3 (f+1) s aL).1/\(names (e3 (f+1) s aL).1).Nodup:=by
 have h:=AG f s aL hd aU dL aN;obtain⟨t,e,k⟩:=h.tail;refine⟨λx ah=>?_,h.apart⟩;rw[e] at ah;rcases List.mem_append.1 ah with ah|ah
 . exact bX x ah
 . exact⟨(k x ah).ne,(k x ah).e9.EL⟩
theorem CB{f:Nat}{s:c6}{aL:List aj}(hd:Deep f aL)(aU:gy aL)(dL:aL≠[])(aN:(names s).Nodup):(e3 (f+1) s aL).2<(e3 (f+1) s aL).1.length:=by
 obtain⟨es,h⟩:=(AG f s aL hd aU dL aN).here;exact(List.getElem?_eq_some_iff.1 h).1
def mM(f:Nat)(q5:c6)(tm:List (Nat×List aj))(q6:c6)(eo:List cg)(dX:List aj):Prop:=
 lQ (e3 f) q5 tm=((lQ (e3 f) q6 (g_ dX)).1,eo++(lQ (e3 f) q6 (g_ dX)).2)
theorem mM.start(f:Nat)(q5:c6)(r:List aj):mM f q5 (g_ r) q5 [] r:=by unfold mM;simp
theorem mM.next{f:Nat}{q5:c6}{tm:List (Nat×List aj)}{q6:c6}{eo:List cg}{s:aj}{r:List aj}(h:mM f q5 tm q6 eo (s::r)):
 mM f q5 tm (e3 f q6 (eZ (dC s) (s::r))).1 (eo++[⟨(gb s:Int),((e3 f q6 (eZ (dC s) (s::r))).2:Int)⟩]) (l9 (dC s) (s::r)):=by
 unfold mM at h ⊢;rw[h,Cp];simp only[lQ,List.append_assoc,List.cons_append,List.nil_append]
theorem mM.fin{f:Nat}{q5:c6}{tm:List (Nat×List aj)}{q6:c6}{eo:List cg}(h:mM f q5 tm q6 eo []):lQ (e3 f) q5 tm=(q6,eo):=by
 unfold mM at h;rw[h,AD];simp[lQ]
theorem H0{f:Nat}{s:c6}{aL:List aj}{i:Nat}(h:(s.findIdx? λx=>x.1==aL)=some i):e3 (f+1) s aL=(s,i):=by
 unfold e3;rw[h]
theorem Mr{f:Nat}{s xs:c6}{aL:List aj}{eo:List cg}(h:(s.findIdx? λx=>x.1==aL)=none)(he:lQ (e3 f) (s++[(aL,[])]) (g_ (fI aL))=(s++(aL,[])::xs,eo)):e3 (f+1) s aL=(s++(aL,eo)::xs,s.length):=by
 unfold e3;rw[h];simp only[he];rw[List.set_append_right _ _ (Nat.le_refl _)];simp
theorem mM.cast{f:Nat}{q5 q6 TP:c6}{tm:List (Nat×List aj)}{eo:List cg}{r TQ:List aj}(h:mM f q5 tm q6 eo r)(fV:q6=TP)(je:r=TQ):mM f q5 tm TP eo TQ:=by subst fV je;exact h
theorem mM.CC{f:Nat}{q5:c6}{tm:List (Nat×List aj)}{q6:c6}{eo:List cg}{x:aj}{dX:List aj}(ah:dX[0]?=some x)(h:mM f q5 tm q6 eo dX):
 mM f q5 tm (e3 f q6 (eZ (dC x) dX)).1 (eo++[⟨(gb x:Int),((e3 f q6 (eZ (dC x) dX)).2:Int)⟩]) (l9 (dC x) dX):=by
 rw[head_cons ah] at h ⊢;exact h.next
theorem TR{s:c6}{aL:List aj}(bC:(s.findIdx? λx=>x.1==aL)=none)(gK:(names s).Nodup)(bX:wj s)(dL:aL≠[])(a':∀t∈aL,rQ t):wj (s++(aL,[])::[])/\(names (s++(aL,[])::[])).Nodup:=by
 have fZ:=L6 bC;refine⟨λx ah=>?_,?_⟩
 . rcases List.mem_append.1 ah with ah|ah
   . exact bX x ah
   . simp only[List.mem_singleton] at ah;subst ah;exact⟨dL,a'⟩
 . unfold names;rw[List.map_append,List.nodup_append];refine⟨gK,by simp,λa ax b ab=>?_⟩;simp only[List.map_cons,List.map_nil,List.mem_singleton] at ab;subst ab;exact λe=>fZ (by rw[<-e];exact ax)
theorem CD{dX:List aj}{x:aj}{f:Nat}(ah:dX[0]?=some x)(a':gy dX/\(∀t∈dX,t≠[])/\Deep (f+1) dX):
 gy (eZ (dC x) dX)/\eZ (dC x) dX≠[]/\Deep f (eZ (dC x) dX)/\jh (eZ (dC x) dX)+(eZ (dC x) dX).length+jh (l9 (dC x) dX)<=jh dX/\(eZ (dC x) dX).length+(l9 (dC x) dX).length=dX.length/\1<=(eZ (dC x) dX).length:=by
 obtain⟨aU,aN,hd⟩:=a';have rU:=List.mem_of_getElem? ah;have kD:=aN x rU;have hp:dC x=eg (gb x):=(yQ kD ((yR kD).1 (aU.o7 x rU)).1).2.symm;have AS:=((aU.o7 x rU).split kD).1
 have h1:1<=(eZ (dC x) dX).length:=by
  rw[head_cons ah]
  unfold eZ
  rw[List.takeWhile_cons,if_pos (AA x)];simp
 refine⟨?_,?_,λt a8=>?_,TL (by rw[hp];exact SV _) _,TM _ _,h1⟩
 . rw[head_cons ah] at aU ⊢;exact S6 aU kD
 . intro e;rw[e] at h1;simp at h1
 . have hm:=hd _ (S5 a8);rw[hp] at hm;have ag:=we (c:=gb x) AS t;unfold gb at hm ag;rw[ag] at hm;simp only[List.length_cons] at hm;omega
theorem Ms{f:Nat}{dX:List aj}{x:aj}(hd:Deep f dX)(ah:x∈dX)(aN:x≠[]):∃f2,f=f2+1:=by
 have:=hd x ah;rw[xw aN] at this;simp only[List.length_cons] at this;exact⟨f-1,by omega⟩
theorem H2{l:List aj}{x:aj}(h:x∈l):x.length<=jh l:=by
 induction l with
 | nil=>simp at h
 | cons a l cc =>
  rw[Mq];rcases List.mem_cons.1 h with rfl|h
  . omega
  . have:=cc h;omega
theorem TS{l:List aj}{x:aj}(ah:l[0]?=some x)(h:x=[]):fI l=l.drop 1/\j5 l=true:=by
 rw[head_cons ah,h];simp[fI,j5]
theorem TT{l:List aj}{x:aj}(ah:l[0]?=some x)(h:x≠[]):fI l=l/\j5 l=false:=by
 have bk:=head_cons ah
 cases x with
 | nil=>exact absurd rfl h
 | cons a x =>
  constructor
  . rw[bk];rfl
  . rw[bk];simp[j5]
theorem TU(s xs:c6)(r:List aj)(es rP:List cg):l_ (s++(r,es)::xs)=l_ (s++(r,rP)::xs):=ady (by simp[names])
structure q7(p:aj)(l:List aj)(k:Nat)(b:List aj):Prop where
 is:b=(l.take k).map λt=>t.drop p.length
 all:∀t∈l.take k,p.isPrefixOf t=true
theorem q7.start(p:aj)(l:List aj):q7 p l 0 []:=⟨by simp,by simp⟩
theorem q7.next{p:aj}{l:List aj}{k:Nat}{b:List aj}{t:aj}(h:q7 p l k b)(a8:l[k]?=some t)(hp:p.isPrefixOf t=true):q7 p l (k+1) (b++[t.drop p.length]):=by
 refine⟨by rw[h.is,List.take_add_one,a8];simp,λu hu=>?_⟩;rw[List.take_add_one,a8] at hu;simp only[Option.toList_some,List.mem_append,List.mem_singleton] at hu;rcases hu with hu|rfl
 . exact h.all u hu
 . exact hp
theorem q7.Mt{p:aj}{l:List aj}{k m:Nat}{b:List aj}{t:aj}(h:q7 p l k b)(hm:p.length=m)(a8:l[k]?=some t)(hp:p.isPrefixOf t=true):q7 p l (k+1) (b++[t.drop m]):=by rw[<-hm];exact h.next a8 hp
theorem adV{α:Type}{p:α->Bool}{l:List α}{k:Nat}(h1:∀t∈l.take k,p t=true)(ag:∀t,l[k]?=some t->p t=false):l.takeWhile p=l.take k/\l.dropWhile p=l.drop k:=by
 have e:l=l.take k++l.drop k:=(List.take_append_drop k l).symm
 have aB:(l.drop k).takeWhile p=[]/\(l.drop k).dropWhile p=l.drop k:=by
  cases hd:l.drop k with
  | nil=>simp
  | cons t r =>
   have:l[k]?=some t:=by rw[<-List.head?_drop,hd];rfl
   have:=ag t this
   simp[List.takeWhile_cons,List.dropWhile_cons,this]
 constructor
 . conv=>lhs;rw[e]
   rw[List.takeWhile_append_of_pos h1,aB.1,List.append_nil]
 . conv=>lhs;rw[e]
   rw[List.dropWhile_append_of_pos h1,aB.2]
theorem q7.fin{p:aj}{l:List aj}{k:Nat}{b:List aj}(h:q7 p l k b)(he:l.length<=k\/∃t,l[k]?=some t/\p.isPrefixOf t=false):b=eZ p l/\l.drop k=l9 p l:=by
 have:=adV h.all (λt a8=>by
  rcases he with he|⟨u,hu,hp⟩
  . rw[List.getElem?_eq_none he] at a8;cases a8
  . rw[hu] at a8;cases a8;exact hp)
 unfold eZ l9;rw[this.1,this.2];exact⟨h.is,rfl⟩
theorem Mu{p t:aj}{n:Nat}(h:p.isPrefixOf t=true)(aN:p.length=n):n<=t.length:=by
 have:=congrArg List.length (Cr h);rw[List.length_append] at this;omega
theorem TV{s:aj}(aT:s≠[]):(dC s).length=l8 s:=by
 have:=Cf s aT;unfold dC l8;rw[List.length_take];omega
end Go.ak
namespace Go.aF
open Go
def og(w:World)(F:Nat->Prop)(t:List c8)(xs:ak.c6):Prop:=c4 (λr x=>r.fin=ak.j5 x.1/\aq ak.e2 w F r.e.val x.2) t xs
def TW(c5 ar x:Nat):Nat->Prop:=λb=>c5<=b/\b<ar/\b+1≠x
def TX(c5 ar x y:Nat):Nat->Prop:=λb=>c5<=b/\b<ar/\b+1≠x/\b+1≠y
theorem og.keep{M:Nat->Prop}{w an:World}{F:Nat->Prop}{t:List c8}{xs:ak.c6}(h:og w F t xs)(hm:Mod M w an)(br:∀b,F b->¬ M b):og an F t xs:=c4.imp (λr n ⟨h1,ag⟩=>⟨h1,ag.keep hm br⟩) h
theorem og.mono{w:World}{F F':Nat->Prop}{t:List c8}{xs:ak.c6}(h:og w F t xs)(br:∀b,F b->F' b):og w F' t xs:=c4.imp (λr n ⟨h1,ag⟩=>⟨h1,ag.mono br⟩) h
theorem og.len{w:World}{F:Nat->Prop}{t:List c8}{xs:ak.c6}(h:og w F t xs):t.length=xs.length:=(c4.get h).1
def TY(w:World)(c5 ar x y:Nat)(t:List c8)(xs:ak.c6):Prop:=og w (TX c5 ar x y) t xs
theorem TY.out{w:World}{c5 ar H3 x y:Nat}{t:List c8}{xs:ak.c6}(h:TY w c5 ar x y t xs)(hF:ar<=H3):og w (TW c5 H3 y) t xs:=og.mono h λb ab=>by unfold TX at ab;unfold TW;omega
theorem adW{w:World}{b:Nat}{m s6:List (aj×Int)}(h:nk aE fB w b m)(e:m=s6):nk aE fB w b s6:=e▸h
theorem bz.TZ{P:Program}{E:Env}{C:World->Prop}{d:Option Tmp}{ty:TypeId}{pos:String}{af:Array Edge}{gd:Option (Nat×Bool)}{α β:Type}[DecidableEq α]{key:α->Value}{val:β->Value}{t e4 jo:TypeId}{x y:Operand}{b:Nat}{m:List (α×β)}{a:α}{z:Value}{u:β}(hk:KeyOk P e4 key)(a8:P.underlying t=some (.map e4 jo))(cS:∀w,(zeroValue jo).run P w=.ok z w)(ah:aP E x=some (.map (some b)))(aD:aP E y=some (key a))(hm:∀w,C w->nk key val w b m)(hu:gz m a=some u):
 bz P ⟨d,.lookup t x y true,ty,pos,af,gd⟩ E C (.tuple #[val u,.bool true]):=by
 have h:=bz.Ti (d:=d) (ty:=ty) (pos:=pos) (af:=af) (gd:=gd) (g:=true) (n:=0) (by_:=0) hk a8 cS ah aD hm;rw[hu] at h;exact h
theorem bz.T0{P:Program}{E:Env}{C:World->Prop}{d:Option Tmp}{ty:TypeId}{pos:String}{af:Array Edge}{gd:Option (Nat×Bool)}{α β:Type}[DecidableEq α]{key:α->Value}{val:β->Value}{t e4 jo:TypeId}{x y:Operand}{b:Nat}{m:List (α×β)}{a:α}{z:Value}(hk:KeyOk P e4 key)(a8:P.underlying t=some (.map e4 jo))(cS:∀w,(zeroValue jo).run P w=.ok z w)(ah:aP E x=some (.map (some b)))(aD:aP E y=some (key a))(hm:∀w,C w->nk key val w b m)(hu:gz m a=none):
 bz P ⟨d,.lookup t x y true,ty,pos,af,gd⟩ E C (.tuple #[z,.bool false]):=by
 have h:=bz.Ti (d:=d) (ty:=ty) (pos:=pos) (af:=af) (gd:=gd) (g:=true) (n:=0) (by_:=0) hk a8 cS ah aD hm;rw[hu] at h;exact h
end Go.aF
namespace Go.ak
open Go.aF
theorem T1:∀rs:List Nat,(sv rs).length<=4*rs.length
 | []=>by simp[sv]
 | c::rs=>by
  have h:=T1 rs
  have bE:=xD c
  have e:sv (c::rs)=eg c++sv rs:=rfl
  rw[e,List.length_append,List.length_cons];omega
theorem T2{w:aj}(h:word w=true):w.length<=48:=by
 unfold word at h;rw[Bool.and_eq_true,decide_eq_true_eq,decide_eq_true_eq] at h
 have bC:ir w:=by
  intro hm
  unfold iN at h;rw[if_pos hm] at h;omega
 have bk:=SY bC;have he:=T1 (hi w);rw[(HL w bC).1] at he;omega
theorem adX{l:List aj}{m:Nat}(h:∀x∈l,x.length<=m):jh l<=l.length*m:=by
 induction l with
 | nil=>simp[jh]
 | cons a l cc =>
  rw[Mq,List.length_cons,Nat.add_mul];have:=h a di;have:=cc λx ah=>h x (by simp[ah])
  omega
theorem EU{l:List aj}(h:e7 l=0):l.length<=60/\jh l<=2880:=by
 obtain⟨h1,ag,_⟩:=wg h;have:=adX (l:=l) (m:=48) λx ah=>T2 (ag x ah)
 omega
def o_(words:List aj):c6:=if words=[] then[([],[])] else te words
def h7(words:List aj):List cx:=if e7 words=0 then fW (o_ words) else[]
theorem adY{words:List aj}(h:e7 words≠0):h7 words=[]:=by unfold h7;rw[if_neg h]
theorem uh{words:List aj}(h:e7 words=0):h7 words=fW (o_ words):=by unfold h7;rw[if_pos h]
theorem H4{words:List aj}(h:words=[]):h7 words=[(false,[])]:=by subst h;decide
theorem T3{words:List aj}(h:e7 words=0):(te words).length<=2881:=by
 have h1:=yY 13 [] words (th h).1;have ag:=(EU h).2;unfold te;simp only[List.length_nil] at h1;omega
theorem adZ{α β:Type}{R:α->β->Prop}{a:List α}{b:List β}(h:c4 R a b):a.length=b.length:=(c4.get h).1
theorem Mv:∀(n:Nat) (l:List aj),l.length<=n->(g_ l).length<=l.length
 | _,[],_=>by simp[AD]
 | 0,_::_,h=>by simp at h
 | n+1,s::r,h=>by
  rw[Cp]
  have hm:=AB s r
  have:=Mv n (l9 (dC s) (s::r)) (by simp only[List.length_cons] at h;omega)
  simp only[List.length_cons];omega
theorem ad0(p:aj)(l:List aj):(eZ p l).length<=l.length:=by have:=TM p l;omega
theorem T4:∀(n:Nat) (l:List aj),l.length<=n->∀g∈g_ l,g.2.length<=l.length
 | _,[],_,g,aU=>by simp[AD] at aU
 | 0,_::_,h,_,_=>by simp at h
 | n+1,s::r,h,g,aU=>by
  rw[Cp] at aU
  have hm:=AB s r
  rcases List.mem_cons.1 aU with rfl|aU
  . exact ad0 _ _
  . have:=T4 n (l9 (dC s) (s::r)) (by simp only[List.length_cons] at h;omega) g aU
    simp only[List.length_cons];omega
theorem T5{add:c6->List aj->c6×Nat}{L:Nat}:∀(gs:List (Nat×List aj)) (s:c6),(∀g∈gs,∀s,(∀y∈s,y.1.length<=L)->∀y∈(add s g.2).1,y.1.length<=L)->(∀y∈s,y.1.length<=L)->∀y∈(lQ add s gs).1,y.1.length<=L
 | [],s,_,aT=>aT
 | g::gs,s,h,aT=>by
  show ∀y∈(lQ add (add s g.2).1 gs).1,_
  exact T5 gs _ (λfy tf=>h fy (by simp[tf])) (h g di s aT)
theorem EV{L:Nat}:∀(f:Nat) (s:c6) (aL:List aj),(∀y∈s,y.1.length<=L)->aL.length<=L->∀y∈(e3 f s aL).1,y.1.length<=L
 | 0,s,aL,aT,_=>aT
 | f+1,s,aL,aT,a'=>by
  unfold e3
  cases ar:s.findIdx? λx=>x.1==aL with
  | some i=>exact aT
  | none =>
   have h1:=T5 (add:=e3 f) (L:=L) (g_ (fI aL)) (s++[(aL,[])]) (λg iO j0 An=>EV f j0 g.2 An (by
    have:=T4 _ (fI aL) (Nat.le_refl _) g iO
    have:=HY aL
    omega)) (λy aD=>by
     rcases List.mem_append.1 aD with aD|aD
     . exact aT y aD
     . simp only[List.mem_singleton] at aD;subst aD;exact a')
   intro y aD
   rcases List.mem_or_eq_of_mem_set aD with aD|rfl
   . exact h1 y aD
   . exact a'
theorem CE{words:List aj}(h:e7 words=0):uf (h7 words) (o_ words) words:=by
 rw[uh h];unfold o_;split
 . rename_i he;subst he;exact uf.empty
 . rename_i he;have hw:=Cs (th h).2 (th h).1 he;have bk:=T3 h;refine uf.of hw aa λy aD=>?_
   have al:=adZ (hw.node y aD).wh;have aU:=Mv _ (fI y.1) (Nat.le_refl _);have hd:=HY y.1;have AT:y.1.length<=60:=EV 13 [] words di (EU h).1 y aD;omega
end Go.ak
namespace Go.aF
open Go
theorem T6{w:World}{F:Nat->Prop}:∀{t:List c8} {xs:ak.c6},og w F t xs->j6 w F t (fW xs)
 | _,_,.nil=>.nil
 | _,_,.cons h r=>.cons h (T6 r)
end Go.aF
namespace Go.ak
open Go.aF
def ui(c:Nat):Nat:=if c % 2=1 then(c / 2) ^^^ 3988292384 else c / 2
def q8:Nat->Nat->Nat
 | 0,c=>c
 | k+1,c=>ui (q8 k c)
def vc(c b:Nat):Nat:=q8 8 (c ^^^ b)
def rV(c:Nat)(l:List UInt8):Nat:=l.foldl (λc x=>vc c x.toNat) c
def AU(c:Nat)(l:List UInt8):Nat:=4294967295-rV (4294967295-c) l
def kE(l:List UInt8):Nat:=AU 0 l
theorem ad1{c:Nat}(h:c<4294967296):ui c<4294967296:=by
 unfold ui;split
 . exact xE aa aa
 . omega
theorem H5{c:Nat}(h:c<4294967296):∀k,q8 k c<4294967296
 | 0=>h
 | k+1=>ad1 (H5 h k)
theorem AV{c b:Nat}(h:c<4294967296)(ab:b<256):vc c b<4294967296:=H5 (xE h aa) 8
theorem ar0(c:Nat)(b:UInt8)(h:c<4294967296):vc c b.toNat<4294967296:=AV h b.toNat_lt
theorem H6:∀(l:List UInt8) {c:Nat},c<4294967296->rV c l<4294967296
 | [],c,h=>h
 | x::l,c,h=>H6 l (AV h x.toNat_lt)
theorem T7{c:Nat}{l:List UInt8}{k:Nat}{x:UInt8}(ah:l[k]?=some x):rV c (l.take (k+1))=vc (rV c (l.take k)) x.toNat:=by
 unfold rV;rw[List.take_add_one,ah,List.foldl_append];rfl
theorem CF(c:Nat)(l:List UInt8):AU c l<4294967296:=by unfold AU;omega
theorem T8{c fp:Nat}{k:Nat}(h:c=q8 k fp)(h1:c % 2=1):(c / 2) ^^^ 3988292384=q8 (k+1) fp:=by
 show _=ui (q8 k fp);rw[<-h];unfold ui;rw[if_pos h1]
theorem T9{c fp:Nat}{k:Nat}(h:c=q8 k fp)(h1:¬ c % 2=1):c / 2=q8 (k+1) fp:=by
 show _=ui (q8 k fp);rw[<-h];unfold ui;rw[if_neg h1]
theorem ad2(a b:Nat):(a ^^^ b) / 2=(a / 2) ^^^ (b / 2):=by
 have:=Nat.shiftRight_xor_distrib (a:=a) (b:=b) (i:=1);simpa[Nat.shiftRight_eq_div_pow] using this
theorem ad3(a b:Nat):(a ^^^ b) % 2=(a % 2+b % 2) % 2:=by
 have:=Nat.xor_mod_two_pow (a:=a) (b:=b) (n:=1);simp only[Nat.pow_one] at this;rw[this];rcases Nat.mod_two_eq_zero_or_one a with h|h<;>rcases Nat.mod_two_eq_zero_or_one b with gO|gO<;>rw[h,gO]<;>rfl
def sy(fp b:Nat)(k c:Nat):Prop:=q8 k (fp ^^^ b)=c ^^^ (b / 2 ^ k)/\c<4294967296
theorem sy.start{fp b:Nat}(h:fp<4294967296):sy fp b 0 fp:=⟨by simp[q8],h⟩
theorem T_{fp b k c:Nat}(h:sy fp b k c)(ab:b<256):q8 (k+1) (fp ^^^ b)=(if c % 2≠b / 2 ^ k % 2 then(c / 2) ^^^ 3988292384 else c / 2) ^^^ (b / 2 ^ (k+1)):=by
 show ui (q8 k (fp ^^^ b))=_;rw[h.1];unfold ui;rw[ad3,ad2,Nat.pow_succ,<-Nat.div_div_eq_div_mul];by_cases al:c % 2=b / 2 ^ k % 2
 . rw[if_neg aa,if_neg aa]
 . rw[if_pos aa,if_pos al,Nat.xor_assoc,Nat.xor_comm (b / 2 ^ k / 2),<-Nat.xor_assoc]
theorem sy.one{fp b k c:Nat}(h:sy fp b k c)(ab:b<256)(al:c % 2≠b / 2 ^ k % 2):sy fp b (k+1) ((c / 2) ^^^ 3988292384):=⟨by rw[T_ h ab,if_pos al],xE (by have:=h.2;omega) aa⟩
theorem sy.nil{fp b k c:Nat}(h:sy fp b k c)(ab:b<256)(al:c % 2=b / 2 ^ k % 2):sy fp b (k+1) (c / 2):=⟨by rw[T_ h ab,if_neg aa],by have:=h.2;omega⟩
theorem sy.fin{fp b c:Nat}(h:sy fp b 8 c)(ab:b<256):c=vc fp b:=by
 have:=h.1;rw[Nat.div_eq_of_lt (by omega:b<2 ^ 8),Nat.xor_zero] at this;exact this.symm
def fl(n:Int)(size:Nat):List UInt8:=(List.range size).map λi=>gG (IntKind.u64.wrap n / 2 ^ (8*(size-1-i)))
theorem ie(n:Int)(size:Nat):(fl n size).length=size:=by simp[fl]
theorem T'{n:Int}{size i:Nat}{b out:List UInt8}{x:UInt8}(h:out=b++(fl n size).take i)(ar:i<size)(ah:x=gG (IntKind.u64.wrap n / 2 ^ (8*(size-1-i)))):out++[x]=b++(fl n size).take (i+1):=by
 rw[h,List.append_assoc];congr 1
 rw[List.take_add_one];congr 1
 unfold fl;rw[List.getElem?_map,List.getElem?_range ar,ah];rfl
def kY(l:List UInt8):Nat:=l.foldl (λn x=>n*256+x.toNat) 0
theorem Ua:∀(l:List UInt8) (n:Nat),l.foldl (λn x=>n*256+x.toNat) n<(n+1)*256 ^ l.length
 | [],n=>by simp
 | x::l,n=>by
  have:=Ua l (n*256+x.toNat)
  have ah:=x.toNat_lt
  rw[List.foldl_cons,List.length_cons,Nat.pow_succ]
  calc _<(n*256+x.toNat+1)*256 ^ l.length:=this
   _<=((n+1)*256)*256 ^ l.length:=Nat.mul_le_mul_right _ aa
   _=_:=by rw[Nat.mul_assoc,Nat.mul_comm 256]
theorem ad4{l:List UInt8}{k:Nat}{x:UInt8}(ah:l[k]?=some x):kY (l.take (k+1))=kY (l.take k)*256+x.toNat:=by
 unfold kY;rw[List.take_add_one,ah,List.foldl_append];rfl
def mN(b:List UInt8)(at_ size:Int):Bool:=decide (1<=size/\size<=8/\0<=at_/\at_<=b.length/\size<=b.length-at_)
def j'(b:List UInt8)(at_ size:Int):Int:=if mN b at_ size=true then(kY ((b.drop at_.toNat).take size.toNat):Int) else 0
theorem H7{b:List UInt8}{at_ size:Int}(h:¬ (1<=size/\size<=8/\0<=at_/\at_<=b.length/\size<=b.length-at_)):(0:Int)=j' b at_ size/\false=mN b at_ size:=by
 have:mN b at_ size=false:=decide_eq_false h
 unfold j';rw[this];exact⟨rfl,rfl⟩
theorem H8{b:List UInt8}{at_ size:Int}(h:1<=size/\size<=8/\0<=at_/\at_<=b.length/\size<=b.length-at_):(kY ((b.drop at_.toNat).take size.toNat):Int)=j' b at_ size/\true=mN b at_ size:=by
 have:mN b at_ size=true:=decide_eq_true h
 unfold j';rw[this];exact⟨rfl,rfl⟩
theorem Mw{l:List UInt8}:kY l<256 ^ l.length:=by
 have:=Ua l 0;unfold kY;simpa using this
def ma(e:cg):List UInt8:=fl e.rune 4++fl e.to 2
def kF(x:cx):List UInt8:=fl (if x.1=true then 1 else 0) 1++fl x.2.length 2++x.2.flatMap ma
def hJ(N:List cx):List UInt8:=[73,78,75,49]++fl N.length 2++N.flatMap kF
def xF(b:List UInt8):List UInt8:=b++fl (kE b) 4
def kZ(N:List cx):List UInt8:=xF (hJ N)
end Go.ak
namespace Go.ak
open Go.aF
theorem ad5{n i:Int}{size:Nat}{b out:List UInt8}(h:out=b++(fl n size).take ((size:Int)-1-i).toNat)(bH:0<=i)(ar:i<(size:Int)):out++[gG (IntKind.u64.wrap n / 2 ^ (8*i).toNat)]=b++(fl n size).take ((size:Int)-1-(i-1)).toNat:=by
 have:=T' (x:=gG (IntKind.u64.wrap n / 2 ^ (8*i).toNat)) h aa (by congr 3;omega);rw[this];congr 2;omega
theorem Mx{l:List UInt8}{i:Nat}(h:i<=4):kY (l.take i)<4294967296:=by
 have h1:=Mw (l:=l.take i);have ag:(l.take i).length<=4:=(by rw[List.length_take];omega);have aB:256 ^ (l.take i).length<=256 ^ 4:=Nat.pow_le_pow_right aa ag;omega
theorem Ub{at_:Int}{b:List UInt8}{m i:Nat}{x:UInt8}(h:m=kY ((b.drop at_.toNat).take i))(ah:b[(at_+(i:Int)).toNat]?=some x)(bH:0<=at_):m*256+x.toNat=kY ((b.drop at_.toNat).take (i+1)):=by
 rw[h];symm;refine ad4 ?_;rw[List.getElem?_drop,<-ah];congr 1;omega
theorem My(b:List UInt8)(at_:Int)(size:Nat):0<=j' b at_ size:=by unfold j';split<;>omega
end Go.ak
namespace Go.ak
open Go.aF
theorem ad6{g:List cx}{i:Nat}(h:i<g.length):g[i]?=some (nodeAt g (i:Int)):=by
 rw[Mh aa (List.getElem?_eq_getElem h)];exact List.getElem?_eq_getElem h
theorem Uc(g:List cx):[73,78,75,49]++fl (g.length:Int) 2++(g.drop 0).flatMap kF=hJ g:=rfl
theorem EW{g:List cx}{B out:List UInt8}{i:Nat}{x:cx}{f:Int}(h:out++(g.drop i).flatMap kF=B)(ah:g[i]?=some x)(bC:f=if x.1=true then 1 else 0):out++fl f 1++fl (x.2.length:Int) 2++((x.2.drop 0).flatMap ma++(g.drop (i+1)).flatMap kF)=B:=by
 rw[<-h,wq ah,List.flatMap_cons,bC];unfold kF;simp
theorem EX{B out:List UInt8}{es:List cg}{R:List UInt8}{k:Nat}{e:cg}(h:out++((es.drop k).flatMap ma++R)=B)(ah:es[k]?=some e):out++fl e.rune 4++fl e.to 2++((es.drop (k+1)).flatMap ma++R)=B:=by
 rw[<-h,wq ah,List.flatMap_cons];unfold ma;simp
theorem H9{B out:List UInt8}{es:List cg}{R:List UInt8}{k:Nat}(h:out++((es.drop k).flatMap ma++R)=B)(hk:es.length<=k):out++R=B:=by
 rw[List.drop_of_length_le hk] at h;simpa using h
theorem H_{B out R:List UInt8}(h:out++R=B):out.length<=B.length:=by rw[<-h,List.length_append];omega
theorem H'{B out R:List UInt8}{es:List cg}{k:Nat}{e:cg}(h:out++((es.drop k).flatMap ma++R)=B)(ah:es[k]?=some e):out.length+6<=B.length:=by
 have:=H_ (EX h ah);simp only[List.length_append,ie] at this;omega
theorem Mz{g:List cx}{B out:List UInt8}{i:Nat}{x:cx}(h:out++(g.drop i).flatMap kF=B)(ah:g[i]?=some x):out.length+3<=B.length:=by
 have:=H_ (EW (f:=if x.1=true then 1 else 0) h ah rfl);simp only[List.length_append,ie] at this;omega
theorem Ud{g:List cx}{out:List UInt8}{i:Nat}(h:out++(g.drop i).flatMap kF=hJ g)(ar:g.length<=i):out=hJ g:=by
 rw[List.drop_of_length_le ar] at h;simpa using h
def yZ(g:List cx):List UInt8:=if g.isEmpty=true then[] else kZ g
theorem Ue{g:List cx}(h:g=[]):yZ g=[]:=by subst h;rfl
theorem MA{g:List cx}(h:g≠[]):yZ g=kZ g:=by
 unfold yZ;rw[if_neg];cases g<;>simp at *
def Ia(g:List cx):Int:=if g.isEmpty=true then 2 else 0
theorem Uf{g:List cx}(h:g≠[]):(0:Int)=Ia g:=by
 unfold Ia;rw[if_neg];cases g<;>simp at *
def k0(words:List aj):List UInt8:=if e7 words=0 then kZ (h7 words) else[]
theorem Ug{words:List aj}(h:e7 words≠0):([]:List UInt8)=k0 words:=by unfold k0;rw[if_neg h]
theorem Ib{g:c6}{i:Nat}{x:List aj×List cg}(h:g[i]?=some x):(fW g)[i]?=some (j5 x.1,x.2):=by unfold fW;rw[List.getElem?_map,h];rfl
end Go.ak
namespace Go.ak
open Go.aF
theorem ad7(es:List cg):(es.flatMap ma).length=6*es.length:=by
 induction es with
 | nil=>rfl
 | cons e es cc=>rw[List.flatMap_cons,List.length_append,cc,List.length_cons];unfold ma;rw[List.length_append,ie,ie];omega
def CG(N:List cx):Nat:=(N.map λx=>x.2.length).sum
theorem ad8(N:List cx):(N.flatMap kF).length=3*N.length+6*CG N:=by
 unfold CG
 induction N with
 | nil=>rfl
 | cons x N cc =>
  rw[List.flatMap_cons,List.length_append,cc,List.length_cons,List.map_cons,List.sum_cons];unfold kF;rw[List.length_append,List.length_append,ie,ie,ad7];omega
theorem MB(N:List cx):(hJ N).length=6+3*N.length+6*CG N:=by
 unfold hJ;rw[List.length_append,List.length_append,ie,ad8];simp only[List.length_cons,List.length_nil];omega
theorem nd(N:List cx):(kZ N).length=10+3*N.length+6*CG N:=by
 unfold kZ xF;rw[List.length_append,ie,MB];omega
theorem ad9{N:List cx}{m:Nat}(h:∀x∈N,x.2.length<=m):CG N<=N.length*m:=by
 unfold CG
 induction N with
 | nil=>simp
 | cons x N cc =>
  have h1:=h x di;have ag:=cc λy aD=>h y (by simp[aD])
  rw[List.map_cons,List.sum_cons,List.length_cons,Nat.succ_mul];omega
end Go.ak
namespace Go.ak
open Go.aF
theorem Uh{g:c6}{out:List UInt8}{i:Nat}{uj:List aj×List cg}(h:out++((fW g).drop i).flatMap kF=hJ (fW g))(ah:g[i]?=some uj)(ab:(nodeAt (fW g) (i:Int)).1=true):out++fl 1 1++fl (uj.2.length:Int) 2++((uj.2.drop 0).flatMap ma++((fW g).drop (i+1)).flatMap kF)=hJ (fW g):=by
 rw[AP ah] at ab;exact EW (x:=(j5 uj.1,uj.2)) h (Ib ah) (by rw[if_pos ab])
theorem Ui{g:c6}{out:List UInt8}{i:Nat}{uj:List aj×List cg}(h:out++((fW g).drop i).flatMap kF=hJ (fW g))(ah:g[i]?=some uj)(ab:(nodeAt (fW g) (i:Int)).1=false):out++fl 0 1++fl (uj.2.length:Int) 2++((uj.2.drop 0).flatMap ma++((fW g).drop (i+1)).flatMap kF)=hJ (fW g):=by
 rw[AP ah] at ab;have yJ:j5 uj.1=false:=ab;exact EW (x:=(j5 uj.1,uj.2)) h (Ib ah) (by rw[if_neg (by simp[yJ])])
end Go.ak
namespace Go.aF
open Go Go.ak
def jA{R:Nat->Prop}(t:List c8)(xs:c6):dq R:=⟨λF w=>og w F t xs,λh hm br _=>og.keep h hm br⟩
abbrev CH:Nat->Prop:=λ_=>False
def lg(ad_ nO k1:TypeId)(jM:Nat)(s:c6)(bm:List c8):dq CH:=
 nN λx:Nat×Nat×Value=>bl [ay jM [ptr x.1 0,.map (some x.2.1)] ad_,ay x.1 [x.2.2] nO,lA aE fB x.2.1 (l_ s),aS fw k1 2 x.2.2 bm]
theorem vd{R:Nat->Prop}{A B:dq R}{F:Nat->Prop}{w:World}(h:(bl [A,B]).p F w):∃fr bw,A.p fr w/\B.p bw w/\(∀b,fr b->F b)/\(∀b,bw b->F b):=by
 obtain⟨fh,h1,ag,aB⟩:=h;exact⟨fh 0,fh 1,h1 0 A rfl,h1 1 B rfl,λb ab=>(ag 0 b ab).1.1,λb ab=>(ag 1 b ab).1.1⟩
theorem Ic{t t2:List c8}{xs gT:c6}{F:Nat->Prop}{w:World}{R:Nat->Prop}(h:(bl (R:=R) [jA t xs,jA t2 gT]).p F w):(jA (R:=R) (t++t2) (xs++gT)).p F w:=by
 obtain⟨fr,bw,h1,ag,aB,bE⟩:=vd h;exact c4.app (og.mono h1 aB) (og.mono ag bE)
theorem tn{α:Type}{enc:α->List Value}{e:TypeId}{sz:Nat}{v:Value}{l:List α}{F:Nat->Prop}{w:World}{R:Nat->Prop}(h:(aS (R:=R) enc e sz v l).p F w):aq enc w F v l:=by
 obtain⟨g,h1,ag⟩:=h;refine h1.b9.mono λb ab=>?_
 rcases h1 with ⟨_,_,bE⟩|⟨sr,cap,cur,bH,_⟩
 . unfold dr at ab;omega
 . exact ag b (by unfold dr at ab;omega)
theorem Uj{α:Type}{enc:α->List Value}{v:Value}{l:List α}{F:Nat->Prop}{w:World}{R:Nat->Prop}(h:(fe (R:=R) enc [(v,l)]).p F w):aq enc w (λb=>F b\/R b) v l:=h (v,l) (List.mem_singleton_self _)
theorem EY{α:Type}{enc:α->List Value}{v:Value}{l:List α}{F:Nat->Prop}{w:World}(h:(fe (R:=CH) enc [(v,l)]).p F w):aq enc w F v l:=(Uj h).mono λb ab=>ab.resolve_right id
theorem Ie{R:Nat->Prop}{A:dq R}{t:List c8}{xs:c6}{F:Nat->Prop}{w:World}(h:(bl [A,jA t xs]).p F w):t.length=xs.length:=by
 obtain⟨fr,bw,h1,ag,aB,bE⟩:=vd h;exact og.len ag
theorem Uk{e:TypeId}{v:Value}{es:List cg}{t:List c8}{xs:c6}{x:List aj}{r:c8}{F:Nat->Prop}{w:World}(cN:v=r.e.val)(bC:r.fin=j5 x){R:Nat->Prop}(h:(bl (R:=R) [aS e2 e 2 v es,jA t xs]).p F w):(jA (R:=R) (r::t) ((x,es)::xs)).p F w:=by
 obtain⟨fr,bw,h1,ag,aB,bE⟩:=vd h;exact .cons ⟨bC,cN▸(tn h1).mono aB⟩ (og.mono ag bE)
end Go.aF
namespace Go.aF
open Go Go.ak
theorem au.dn{w0 w:World}{ev:Nat}{nO k1:TypeId}{sA:Value}{t:List c8}{xs:c6}(h:au CH CH w0 w [ay ev [sA] nO,aS fw k1 2 sA t,jA t xs])(dL:xs≠[]):hy 0 w w0.heap.size w.heap.size (ptr ev 0) (fW xs):=by
 obtain⟨F,h1,ag,_⟩:=h.act (i:=0) rfl;have aT:=h.adL (i:=1) rfl;obtain⟨CI,aB,bE,_⟩:=h.act (i:=2) rfl;have ab:=ag ev h1.2;exact .inr ⟨ev,sA,t,rfl,by simpa[fW] using dL,⟨ab.1.1.resolve_left id,ab.2,h1.1.row⟩,aT,T6 (og.mono aB λb ab=>⟨(bE b ab).1.1.resolve_left id,(bE b ab).2⟩)⟩
theorem au.ig{w0 w:World}{ev:Nat}{nO:TypeId}{sA:Value}(h:au CH CH w0 w [ay ev [sA] nO,fe fw [(sA,[c8.mk false (cP.mk none 0 0)])]]):hy 0 w w0.heap.size w.heap.size (ptr ev 0) [(false,[])]:=by
 obtain⟨F,h1,ag,_⟩:=h.act (i:=0) rfl;have aT:=h.HV (i:=1) (k:=0) rfl rfl;have ab:=ag ev h1.2;exact .inr ⟨ev,sA,_,rfl,by simp,⟨ab.1.1.resolve_left id,ab.2,h1.1.row⟩,aT,.cons ⟨rfl,aq.nil⟩ .nil⟩
theorem ad'{bV F:Nat->Prop}{w0:World}(h:∀b,F b->((False\/w0.heap.size<=b)/\¬ False)/\bV b):∀b,dr 0 w0.heap.size b->¬ F b:=λb ab bC=>by
 have:=(h b bC).1.1.resolve_left id
 unfold dr at ab;omega
end Go.aF
namespace Go.ak
open Go.aF
theorem Ul{l:List aj}(aT:o6 l){i j:Nat}{x y:aj}(ah:l[i]?=some x)(aD:l[j]?=some y)(h:i<j):nL x y:=by
 obtain⟨h1,rfl⟩:=List.getElem?_eq_some_iff.1 ah;obtain⟨ag,rfl⟩:=List.getElem?_eq_some_iff.1 aD;exact List.pairwise_iff_getElem.1 aT _ _ h1 ag h
structure y0(l:List aj)(w:aj)(i j:Nat):Prop where
 c5:∀k x,k<i->l[k]?=some x->nL x w
 ar:∀k x,j<=k->l[k]?=some x->¬ nL x w
theorem aea{x w:aj}(h:nL x w):x≠w:=λe=>by subst e;exact lt_irrefl x h
theorem y0.yes{l:List aj}{w x:aj}{i:Nat}(ah:l[i]?=some x)(al:Lib.compareBytes x w=0):true=l.contains w:=by
 have:=cmp_eq al;subst this;exact(List.contains_iff_mem.2 (List.mem_of_getElem? ah)).symm
theorem y0.no{l:List aj}{w x:aj}{i j:Nat}(ab:y0 l w i j)(aT:o6 l)(m':i=j)(ah:l[i]?=some x)(al:Lib.compareBytes x w≠0):false=l.contains w:=by
 subst m'
 cases h:l.contains w with
 | false=>rfl
 | true =>
  obtain⟨k,hk⟩:=List.mem_iff_getElem?.1 (List.contains_iff_mem.1 h);rcases Nat.lt_or_ge k i with bk|bk
  . exact absurd (ab.c5 k w bk hk) (lt_irrefl w)
  . rcases Nat.lt_or_ge i k with ag|ag
    . exact absurd (Ul aT ah hk ag) (ab.ar i x (Nat.le_refl _) ah)
    . have:k=i:=by omega
      subst this;rw[ah] at hk;cases hk;exact absurd (EC _) al
theorem y0.none{l:List aj}{w:aj}{i j:Nat}(ab:y0 l w i j)(ar:l.length<=i):false=l.contains w:=by
 cases h:l.contains w with
 | false=>rfl
 | true =>
  obtain⟨k,hk⟩:=List.mem_iff_getElem?.1 (List.contains_iff_mem.1 h);have:=(List.getElem?_eq_some_iff.1 hk).1;exact absurd (ab.c5 k w aa hk) (lt_irrefl w)
theorem y0.at{l:List aj}{w x:aj}{i j:Nat}{b:Bool}(ab:y0 l w i j)(aT:o6 l)(m':i=j)(ah:l[i]?=some x)(h:b=(Lib.compareBytes x w==0)):b=l.contains w:=by
 rw[h];by_cases al:Lib.compareBytes x w=0
 . rw[<-y0.yes ah al];simp[al]
 . rw[<-ab.no aT m' ah al];simp[al]
theorem aeb{l:List aj}(h:o6 l):l.Nodup:=h.imp λh=>aea h
theorem aec{l:List aj}(h:e7 l=0):o6 l:=(wg h).2.2
theorem aed{l:List aj}(h:qZ l=false):l.length<=80:=by
 unfold qZ at h;simp only[Bool.or_eq_false_iff,decide_eq_false_iff_not] at h;omega
end Go.ak
namespace Go.ak
open Go.aF
theorem wx(n:Nat):gG (n:Int)=hR n:=adN n
theorem aee{r:Int}(bH:0<=r)(h:r<128):[gG r]=eg r.toNat:=by
 obtain⟨c,rfl⟩:=Int.eq_ofNat_of_zero_le bH;rw[Int.toNat_natCast];unfold eg;rw[if_pos aa,wx]
theorem aef{r:Int}(bH:0<=r)(h:¬ r<128)(ag:r<2048):[gG (192+r / 64),gG (128+r % 64)]=eg r.toNat:=by
 obtain⟨c,rfl⟩:=Int.eq_ofNat_of_zero_le bH;rw[Int.toNat_natCast];unfold eg;rw[if_neg aa,if_pos aa,<-wx,<-wx];rfl
theorem aeg{r:Int}(bH:0<=r)(h:¬ r<128)(ag:¬ r<2048)(aB:r<65536):[gG (224+r / 4096),gG (128+r / 64 % 64),gG (128+r % 64)]=eg r.toNat:=by
 obtain⟨c,rfl⟩:=Int.eq_ofNat_of_zero_le bH;rw[Int.toNat_natCast];unfold eg;rw[if_neg aa,if_neg aa,if_pos aa,<-wx,<-wx,<-wx];rfl
theorem aeh{r:Int}(bH:0<=r)(h:¬ r<128)(ag:¬ r<2048)(aB:¬ r<65536):[gG (240+r / 262144),gG (128+r / 4096 % 64),gG (128+r / 64 % 64),gG (128+r % 64)]=eg r.toNat:=by
 obtain⟨c,rfl⟩:=Int.eq_ofNat_of_zero_le bH;rw[Int.toNat_natCast];unfold eg;rw[if_neg aa,if_neg aa,if_neg aa,<-wx,<-wx,<-wx,<-wx];rfl
def AW(l:List Int):aj:=l.flatMap λr=>eg r.toNat
def y1(l:List Int):aj:=if l.all py=true then AW l else[]
theorem aei{l:List Int}{k:Nat}{x:Int}(ah:l[k]?=some x):AW (l.take (k+1))=AW (l.take k)++eg x.toNat:=by
 unfold AW;rw[List.take_add_one,ah];simp
theorem Um{l:List Int}{k:Nat}{x:Int}(ah:l[k]?=some x)(h:py x=false):([]:aj)=y1 l/\false=l.all py:=by
 have:l.all py=false:=LR ah h
 unfold y1;rw[this];exact⟨rfl,rfl⟩
theorem Un{l:List Int}{k:Nat}{s:aj}(ax:(l.take k).all py=true)(aT:s=AW (l.take k))(hk:l.length<=k):s=y1 l/\true=l.all py:=by
 rw[List.take_of_length_le hk] at ax aT;unfold y1;rw[if_pos ax,ax];exact⟨aT,rfl⟩
theorem aej(c:Nat):(eg c).length<=4:=xD c
theorem aek{c:Nat}(h:kO c):py (c:Int)=true:=by
 rw[Cl];unfold kO at h;exact decide_eq_true aa
theorem ael{x:Int}(h:py x=true):0<=x/\x<=1114111:=by
 rw[Cl] at h;have:=of_decide_eq_true h;omega
theorem MC{s:aj}(bC:ir s)(dL:s≠[]):kO (gb s)/\eg (gb s)=dC s/\(jK s)[0]?=some ((gb s:Nat):Int)/\1<=(jK s).length:=by
 have h1:=(HL s bC).2 (gb s) (by rw[xw dL];simp[gb]);have ag:=(yQ dL h1.2.2).2
 have aB:jK s=((gb s:Nat):Int)::(hi (s.drop (dec s).2)).map λn:Nat=>(n:Int):=by
  unfold jK;rw[if_pos (SU.2 bC)];unfold d_;rw[xw dL];rfl
 exact⟨h1,ag,by rw[aB];rfl,by rw[aB];simp⟩
theorem Uo{s:aj}(bC:ir s)(dL:s≠[]):y1 ((jK s).take 1)=dC s:=by
 obtain⟨h1,ag,aB,bE⟩:=MC bC dL
 have c3:(jK s).take 1=[((gb s:Nat):Int)]:=by
  cases bk:jK s with
  | nil=>rw[bk] at bE;simp at bE
  | cons a r=>rw[bk] at aB;simp at aB;simp[aB]
 rw[c3];unfold y1;rw[if_pos (by simp[aek h1])];unfold AW;simp[ag]
theorem aem{s:aj}(bC:ir s)(dL:s≠[])(h:¬ (1:Int)<((jK s).length:Int)):y1 (jK s)=dC s:=by
 rw[<-Uo bC dL,List.take_of_length_le aa]
theorem aen{c:Nat}(al:kO c)(t:aj):dC (eg c++t)=eg c:=by
 have h:hi (eg c++t)=c::hi t:=we al t
 have dL:eg c++t≠[]:=by
  intro e
  rw[e] at h;simp[xv] at h
 have hd:(dec (eg c++t)).1=c:=by
  rw[xw dL] at h
  exact(List.cons.inj h).1
 have:=(yQ dL (by rw[hd];exact al.2.2)).2;rw[hd] at this;exact this.symm
theorem aeo{s:c6}{r:List aj}(h:∀x∈s,x.1≠r):(s.findIdx? λx=>x.1==r)=none:=by
 rw[List.findIdx?_eq_none_iff];intro x ah;exact beq_eq_false_iff_ne.2 (h x ah)
theorem Up{x t:aj}(ah:ir x)(kD:x≠[])(a8:ir t)(ar1:t≠[]):(dC t==dC x)=(dC x).isPrefixOf t:=by
 obtain⟨h1,ag,_⟩:=MC ah kD;rw[Bool.eq_iff_iff,beq_iff_eq];constructor
 . intro e;rw[<-e];exact AA t
 . intro h;have:=Cr h;rw[<-ag] at this ⊢;rw[this];exact(aen h1 _)
def p8(aL:List aj)(i:Nat):List aj:=if i=0 then fI aL else aL.drop i
theorem Uq(aL:List aj):p8 aL 0=fI aL:=rfl
theorem EZ{l:List aj}(aT:o6 l){i:Nat}{x:aj}(ah:l[i]?=some x)(ar:0<i):x≠[]:=by
 have hN:=(List.getElem?_eq_some_iff.1 ah).1;have bH:l[0]?=some l[0]:=List.getElem?_eq_getElem aa;have:=Ul aT bH ah ar;intro e;subst e;unfold nL at this
 have ag:Lib.compareBytes l[0] []>=0:=by
  cases l[0] with
  | nil=>decide
  | cons a r=>show(1:Int)>=0;omega
 omega
theorem aep{l:List aj}(aT:o6 l){k bF:Nat}{x y:aj}(ah:l[k]?=some x)(kD:x≠[])(hk:k<=bF)(aD:l[bF]?=some y):y≠[]:=by
 rcases Nat.eq_or_lt_of_le hk with e|h
 . subst e;rw[ah] at aD;cases aD;exact kD
 . exact EZ aT aD aa
theorem aeq(s:aj):∀x∈jK s,-2147483648<=x/\x<=2147483647:=by
 intro x ah;obtain⟨k,hk⟩:=List.mem_iff_getElem?.1 ah;have:=adB hk;omega
theorem aer{aL:List aj}(aU:gy aL){i:Nat}{x:aj}(ah:aL[i]?=some x)(he:x=[]):p8 aL i=p8 aL (i+1)/\i=0:=by
 have ar:i=0:=by
  rcases Nat.eq_zero_or_pos i with h|h
  . exact h
  . exact absurd he (EZ aU.sorted ah h)
 subst ar;refine⟨?_,rfl⟩;rw[Uq,(TS ah he).1];rfl
theorem CJ{aL:List aj}{i:Nat}{x:aj}(ah:aL[i]?=some x)(dL:x≠[]):p8 aL i=aL.drop i:=by
 unfold p8;split
 . rename_i h;subst h;rw[(TT ah dL).1];rfl
 . rfl
theorem aes{aL:List aj}{i:Nat}(h:aL.length<=i):p8 aL i=[]:=by
 unfold p8;split
 . have:aL=[]:=List.eq_nil_of_length_eq_zero aa
   subst this;rfl
 . exact List.drop_of_length_le h
theorem Ur{aL:List aj}{i:Nat}(h:0<i):p8 aL i=aL.drop i:=by unfold p8;rw[if_neg aa]
theorem Us{aL:List aj}{f:Nat}(aU:gy aL)(hd:Deep f aL)(i:Nat):gy (p8 aL i)/\(∀t∈p8 aL i,t≠[])/\Deep f (p8 aL i):=by
 unfold p8;split
 . have:=u9 aU;exact⟨this.1,this.2,λt a8=>hd t (AF a8)⟩
 . rename_i ar;refine⟨⟨L5 aU.sorted (List.drop_suffix _ _),λt a8=>aU.o7 t (List.mem_of_mem_drop a8)⟩,λt a8=>?_,λt a8=>hd t (List.mem_of_mem_drop a8)⟩;obtain⟨k,hk⟩:=List.mem_iff_getElem?.1 a8;rw[List.getElem?_drop] at hk;exact EZ aU.sorted hk aa
theorem Ut(aL:List aj)(i:Nat):jh (p8 aL i)<=jh aL:=by
 unfold p8;split
 . rw[HX];exact Nat.le_refl _
 . have:=TK (aL.take i) (aL.drop i);rw[List.take_append_drop] at this;omega
theorem aet{s:c6}{r:List aj}{k:Nat}{x:List aj×List cg}(fZ:∀y∈s.take k,y.1≠r)(ah:s[k]?=some x)(he:x.1=r):(s.findIdx? λx=>x.1==r)=some k:=by
 obtain⟨hk,rfl⟩:=List.getElem?_eq_some_iff.1 ah;rw[List.findIdx?_eq_some_iff_getElem];refine⟨hk,by simpa using he,λj bn=>?_⟩;have:=fZ s[j] (by rw[List.mem_take_iff_getElem];exact⟨j,by omega,rfl⟩);simpa using this
theorem aeu{s:c6}{r:List aj}{k:Nat}{x:List aj×List cg}(fZ:∀y∈s.take k,y.1≠r)(ah:s[k]?=some x)(he:x.1≠r):∀y∈s.take (k+1),y.1≠r:=by
 intro y aD;rw[List.take_add_one,ah] at aD;simp only[Option.toList_some,List.mem_append,List.mem_singleton] at aD;rcases aD with aD|rfl
 . exact fZ y aD
 . exact he
theorem aev{s:c6}{r:List aj}{k:Nat}(fZ:∀y∈s.take k,y.1≠r)(hk:s.length<=k):(s.findIdx? λx=>x.1==r)=none:=by
 rw[List.take_of_length_le hk] at fZ;exact aeo fZ
theorem aew{s:c6}{aL:List aj}(bC:(s.findIdx? λx=>x.1==aL)=none)(gK:(names s).Nodup):(names (s++(aL,[])::[])).Nodup:=by
 have fZ:=L6 bC;unfold names;rw[List.map_append,List.nodup_append];refine⟨gK,by simp,λa ax b ab=>?_⟩;simp only[List.map_cons,List.map_nil,List.mem_singleton] at ab;subst ab;exact λe=>fZ (by rw[<-e];exact ax)
theorem Uu{f:Nat}{s:c6}{aL:List aj}(hd:Deep f aL)(aU:gy aL)(dL:aL≠[])(aN:(names s).Nodup):(names (e3 (f+1) s aL).1).Nodup:=(AG f s aL hd aU dL aN).apart
end Go.ak
namespace Go.ak
open Go.aF
theorem Uv{words:List aj}(h:e7 words=0):h7 words≠[]:=by
 rw[uh h];unfold o_ fW;split
 . simp
 . rename_i dL;obtain⟨es,he⟩:=(Cs (th h).2 (th h).1 dL).root;intro e;rw[List.map_eq_nil_iff] at e;rw[e] at he;simp at he
theorem aex(c:Nat)(cs:List Nat):sv (c::cs)=eg c++sv cs:=rfl
end Go.ak
namespace Go.aF
open Go Go.ak
structure hj where
 r:cP
 e:cP
def oh(x:hj):List Value:=[x.r.val,x.e.val]
theorem ve(x:hj):(oh x).length=2:=rfl
theorem aey(x:hj):(oh x).all (·.oneCell')=true:=rfl
section
variable {R:Nat->Prop}
def h8(w:World)(F:Nat->Prop)(bm:List hj)(s:c6):Prop:=c4 (λn x=>aq cz w F n.r.val x.1/\aq e2 w F n.e.val x.2) bm s
theorem h8.mono{w:World}{F F':Nat->Prop}{bm:List hj}{s:c6}(h:h8 w F bm s)(br:∀b,F b->F' b):h8 w F' bm s:=c4.imp (λr n ⟨h1,ag⟩=>⟨h1.mono br,ag.mono br⟩) h
theorem h8.keep{M:Nat->Prop}{w an:World}{F:Nat->Prop}{bm:List hj}{s:c6}(h:h8 w F bm s)(hm:Mod M w an)(br:∀b,F b->¬ M b):h8 an F bm s:=c4.imp (λr n ⟨h1,ag⟩=>⟨h1.keep hm br,ag.keep hm br⟩) h
theorem h8.len{w:World}{F:Nat->Prop}{bm:List hj}{s:c6}(h:h8 w F bm s):bm.length=s.length:=(c4.get h).1
theorem h8.at{w:World}{F:Nat->Prop}{bm:List hj}{s:c6}(h:h8 w F bm s){k:Nat}{n:hj}(aN:bm[k]?=some n):∃x,s[k]?=some x/\aq cz w F n.r.val x.1/\aq e2 w F n.e.val x.2:=by
 have aU:=c4.get h;have hN:=(List.getElem?_eq_some_iff.1 aN).1;have ah:s[k]?=some (s[k]'(by rw[<-aU.1];exact hN)):=(by simp);exact⟨_,ah,aU.2 k _ _ aN ah⟩
def qx(bm:List hj)(s:c6):dq R:=⟨λF w=>h8 w (λb=>F b\/R b) bm s,λh hm br fo=>h8.keep h hm λb ab=>ab.elim (br b) (fo b)⟩
def o'(nO k1:TypeId)(ev:Nat)(s:c6)(aT:List Value):dq R:=nN λx:Value×List hj=>pA (x.2.map (λn=>n.r.val)=aT) (bl [ay ev [x.1] nO,aS oh k1 2 x.1 x.2,qx x.2 s])
theorem au.and{bV:Nat->Prop}{w0 w:World}{L:List (dq R)}{i:Nat}{P:Prop}{A:dq R}(h:au R bV w0 w L)(ar:L[i]?=some (pA P A)):P/\au R bV w0 w (L.set i A):=by
 obtain⟨F,h1,_⟩:=h.get ar;exact⟨h1.1,h.imp ar λF br=>br.2⟩
theorem au.aez{bV:Nat->Prop}{w0 w:World}{L:List (dq R)}{i k:Nat}{bm:List hj}{s:c6}{n:hj}(h:au R bV w0 w L)(ar:L[i]?=some (qx bm s))(aN:bm[k]?=some n):∃x,s[k]?=some x/\aq cz w (dr 0 w.heap.size) n.r.val x.1/\aq e2 w (dr 0 w.heap.size) n.e.val x.2:=by
 obtain⟨F,h1,ag⟩:=h.get ar;have aB:h8 w (dr 0 w.heap.size) bm s:=h8.mono h1 λb ab=>⟨Nat.zero_le _,ab.elim (ag b) (h.ug b)⟩
 exact aB.at aN
theorem au.Uw{bV:Nat->Prop}{w0 w:World}{L:List (dq R)}{i:Nat}{bm:List hj}{s:c6}(h:au R bV w0 w L)(ar:L[i]?=some (qx bm s)):bm.length=s.length:=by
 obtain⟨F,h1,_⟩:=h.get ar;exact h8.len h1
theorem au.Ig{bV:Nat->Prop}{w0 w:World}{L:List (dq R)}{i k:Nat}{nO k1:TypeId}{ev:Nat}{s:c6}{aT:List Value}{v:Value}{x:List aj×List cg}(h:au R bV w0 w L)(ar:L[i]?=some (o' nO k1 ev s aT))(cN:aT[k]?=some v)(ah:s[k]?=some x):aq cz w (dr 0 w.heap.size) v x.1:=by
 obtain⟨F,⟨⟨sA,bm⟩,hm,fh,h1,ag,aB⟩,br⟩:=h.get ar;have bE:h8 w (λb=>fh 2 b\/R b) bm s:=h1 2 _ rfl;have c3:h8 w (dr 0 w.heap.size) bm s:=h8.mono bE λb ab=>⟨Nat.zero_le _,ab.elim (λh=>(ag 2 b h).2) (h.ug b)⟩
 have EJ:bm.map (λn=>n.r.val)=aT:=hm;subst EJ;rw[List.getElem?_map] at cN;obtain⟨n,aN,rfl⟩:=Option.map_eq_some_iff.1 cN;obtain⟨adJ,tk,eX,_⟩:=c3.at aN;rw[ah] at tk;cases tk;exact eX
theorem aeA{bm:List hj}{s:c6}{v:Value}{aL:List aj}{n:hj}{F:Nat->Prop}{w:World}(cN:v=n.r.val)(he:n.e.val=.slice none 0 0)(h:(bl (R:=R) [qx bm s,fe cz [(v,aL)]]).p F w):(qx (R:=R) (bm++[n]) (s++[(aL,[])])).p F w:=by
 obtain⟨fr,bw,h1,ag,aB,bE⟩:=vd h;exact c4.app (h8.mono h1 λb ab=>ab.imp (aB b) id) (.cons ⟨cN▸(Uj ag).mono λb ab=>ab.imp (bE b) id,he▸aq.nil⟩ .nil)
theorem Ux{nO k1:TypeId}{ev:Nat}{s:c6}{aT:List Value}{F:Nat->Prop}{w:World}(h:(o' (R:=R) nO k1 ev s aT).p F w):aT.length=s.length:=by
 obtain⟨⟨sA,bm⟩,hm,fh,h1,ag,aB⟩:=h;have bE:h8 w (λb=>fh 2 b\/R b) bm s:=h1 2 _ rfl;have EJ:bm.map (λn=>n.r.val)=aT:=hm;rw[<-EJ,List.length_map];exact h8.len bE
theorem Uy{α β:Type}{Q:α->β->Prop}:∀{a:List α} {b:List β} {i:Nat} {x:α} {y:β},c4 Q a b->Q x y->c4 Q (a.set i x) (b.set i y)
 | _,_,_,_,_,.nil,_=>.nil
 | _,_,0,_,_,.cons h r,dB=>.cons dB r
 | _,_,i+1,_,_,.cons h r,dB=>.cons h (Uy r dB)
theorem aeB{bm:List hj}{s:c6}{k:Nat}{n:hj}{hd:cP}{aL:List aj}{tp es:List cg}{e:TypeId}{v:Value}{F:Nat->Prop}{w:World}(aN:bm[k]?=some n)(ah:s[k]?=some (aL,tp))(cN:v=hd.val)(h:(bl (R:=R) [qx bm s,aS e2 e 2 v es]).p F w):
 (qx (R:=R) (bm.set k (hj.mk n.r hd)) (s.set k (aL,es))).p F w:=by
 obtain⟨fr,bw,h1,ag,aB,bE⟩:=vd h;have c3:h8 w (λb=>F b\/R b) bm s:=h8.mono h1 λb ab=>ab.imp (aB b) id
 obtain⟨x,tk,eX,_⟩:=c3.at aN;rw[ah] at tk;cases tk;exact Uy c3 ⟨eX,cN▸(tn ag).mono λb ab=>.inl (bE b ab)⟩
end
theorem aeC{bm:List hj}{k:Nat}{n:hj}{hd:cP}(aN:bm[k]?=some n):(bm.set k (hj.mk n.r hd)).map (λn=>n.r.val)=bm.map (λn=>n.r.val):=by
 obtain⟨h,rfl⟩:=List.getElem?_eq_some_iff.1 aN;rw[List.map_set];refine List.ext_getElem? λi=>?_
 rw[List.getElem?_set];split
 . rename_i e;subst e;simp[h]
 . rfl
theorem xG{α:Type}{a b:List α}{x:α}{n:Nat}(h:n=a.length):(a++x::b)[n]?=some x:=by
 subst h;rw[List.getElem?_append_right (Nat.le_refl _),Nat.sub_self];rfl
theorem aeD{α:Type}{a b:List α}{x y:α}{n:Nat}(h:n=a.length):(a++x::b).set n y=a++y::b:=by
 subst h;rw[List.set_append_right _ _ (Nat.le_refl _),Nat.sub_self];rfl
end Go.aF
namespace Go.aF
open Go Go.ak
theorem h8.ext{w an:World}{F:Nat->Prop}{bm:List hj}{s:c6}(h:h8 w F bm s)(hm:Ext w an):h8 an F bm s:=h8.keep h hm λ_ _ x=>x
theorem h8.bD{w an:World}{c5 ar g:Nat}{bm:List hj}{s:c6}(h:h8 w (dr c5 ar) bm s)(hm:Mod (ca g) w an)(aU:g<=c5\/ar<g):h8 an (dr c5 ar) bm s:=h8.keep h hm λb ab ah=>by unfold dr ca at *;omega
theorem aeE{R F:Nat->Prop}{nO k1:TypeId}{ev n:Nat}{s:c6}{aT:List Value}{w:World}(h:(o' (R:=R) nO k1 ev s aT).p F w)(br:∀b,F b->b<w.heap.size/\n<=b)(fo:∀b,R b->b<w.heap.size):
 ∃sA bm,kk w n w.heap.size ev [sA]/\aq oh w (dr n w.heap.size) sA bm/\h8 w (dr 0 w.heap.size) bm s:=by
 obtain⟨⟨sA,bm⟩,hm,fh,h1,ag,aB⟩:=h;have rS:∀i b,fh i b->n<=b/\b<w.heap.size:=λi b ab=>⟨(br b (ag i b ab).1.1).2,(ag i b ab).2⟩
 have tj:=h1 0 _ rfl;have bF:=h1 1 _ rfl;have cB:=h1 2 _ rfl;exact⟨sA,bm,⟨(rS 0 _ tj.2).1,(rS 0 _ tj.2).2,tj.1.row⟩,(tn bF).mono λb ab=>rS 1 b ab,h8.mono cB λb ab=>⟨Nat.zero_le _,ab.elim (λh=>(rS 2 b h).2) (fo b)⟩⟩
theorem aeF(words:List aj):(e3 13 [] words).1=o_ words:=by
 unfold o_;split
 . rename_i h;subst h;rfl
 . rfl
theorem Uz{s:c6}{n:Int}{x:List aj×List cg}(h:0<=n)(ah:s[n.toNat]?=some x):nodeAt (fW s) n=(j5 x.1,x.2):=by
 have:=AP ah;rw[show(n.toNat:Int)=n from by omega] at this;exact this
theorem aeG{s:c6}{n:Int}(h:n<0\/(s.length:Int)<=n):nodeAt (fW s) n=(false,[]):=EN (by rw[va];exact h)
theorem aeH{r:List aj}{x:aj}(ah:r[0]?=some x){b:Bool}(ab:b=(x==[])):b=j5 r:=by
 unfold j5;rw[ab,List.head?_eq_getElem?,ah]
 cases x<;>simp
theorem aeI{r:List aj}(h:¬ ((r.length:Int)>0)):false=j5 r:=by
 have:r=[]:=List.eq_nil_of_length_eq_zero aa
 subst this;rfl
end Go.aF
namespace Go.aF
open Go
theorem MD{P:Program}{f:FuncId}{R:Ending->World->Prop}{n:Nat}{E:Env}{k:List Item}{w:World}{fn:Func}{t u:Tmp}{ty:TypeId}{b off sz by_:Nat}{z cs:List Value}{v2:Value}(bC:P.funcs[f]?=some fn)(oC:fn.results=#[.cell t ty,.tmp u])
 (cN:mJ t E=some (ptr b off)) (a8:eu P ty=some (true,sz,by_,z)) (a':Row w b off cs) (aN:cs.length=sz) (ag:mJ u E=some v2) (fo:R (.returned (.tuple #[.agg cs.toArray,v2])) w):hx P f R n E (.code .ret::k) w:=λa ax sr ab hk cs' =>
 ⟨_,w,{ sr.at a (.code .ret::k) with mode:=.returning },fo,.one step_ret,ab,B5 ax bC ab hk (by
  have aU:a.tmps[t]?.getD undef=.pointer (some ⟨b,off,none⟩):=by have:=ax.has t _ cN;simpa[ptr] using this
  have eE:a.tmps[u]?.getD undef=v2:=by simpa using ax.has u _ ag
  simp[results,oC,aU,eE,asAddr,Sem.run_bind,Result.andThen,LC a8 a' aN])⟩
end Go.aF
namespace Go.ak
open Go.aF
theorem aeJ{words:List aj}(h:e7 words=0):1<=(o_ words).length/\(o_ words).length<=2881:=by
 unfold o_;split
 . simp
 . rename_i dL;obtain⟨es,he⟩:=(Cs (th h).2 (th h).1 dL).root;have:=(List.getElem?_eq_some_iff.1 he).1;have:=T3 h;omega
theorem aeK{words:List aj}(h:e7 words=0):∀y∈o_ words,y.1.length<=60:=by
 unfold o_;split
 . simp
 . exact EV 13 [] words di (EU h).1
end Go.ak
namespace Go.aF
open Go Go.ak
def xH(h:cP):List Value:=[h.val]
theorem E0(x:cP):(xH x).length=1:=rfl
theorem aeL(x:cP):(xH x).all (·.oneCell')=true:=rfl
section
variable {R:Nat->Prop} {α:Type} {enc:α->List Value}
def sB(enc:α->List Value)(aT:List cP)(ls:List (List α)):dq R:=⟨λF w=>c4 (λh l=>aq enc w (λb=>F b\/R b) h.val l) aT ls,λh hm br fo=>c4.imp (λ_ _ k=>k.keep hm λb ab=>ab.elim (br b) (fo b)) h⟩
theorem au.Ih{bV:Nat->Prop}{w0 w:World}{L:List (dq R)}{i k:Nat}{aT:List cP}{ls:List (List α)}{x:cP}(h:au R bV w0 w L)(ar:L[i]?=some (sB enc aT ls))(ah:aT[k]?=some x):∃l,ls[k]?=some l/\aq enc w (dr 0 w.heap.size) x.val l:=by
 obtain⟨F,h1,ag⟩:=h.get ar;have aU:=c4.get h1;have hN:=(List.getElem?_eq_some_iff.1 ah).1;have bk:ls[k]?=some (ls[k]'(by rw[<-aU.1];exact hN)):=(by simp);exact⟨_,bk,(aU.2 k _ _ ah bk).mono λb ab=>⟨Nat.zero_le _,ab.elim (ag b) (h.ug b)⟩⟩
theorem au.UA{bV:Nat->Prop}{w0 w:World}{L:List (dq R)}{i:Nat}{aT:List cP}{ls:List (List α)}(h:au R bV w0 w L)(ar:L[i]?=some (sB enc aT ls)):aT.length=ls.length:=by
 obtain⟨F,h1,_⟩:=h.get ar;exact(c4.get h1).1
theorem aeM{e:TypeId}{sz:Nat}{v:Value}{aT:List cP}{ls:List (List α)}{l:List α}{x:cP}{F:Nat->Prop}{w:World}(cN:v=x.val)(h:(bl (R:=R) [sB enc aT ls,aS enc e sz v l]).p F w):(sB (R:=R) enc (aT++[x]) (ls++[l])).p F w:=by
 obtain⟨fr,bw,h1,ag,aB,bE⟩:=vd h;exact c4.app (c4.imp (λ_ _ k=>k.mono λb ab=>ab.imp (aB b) id) h1) (.cons (cN▸(tn ag).mono λb ab=>.inl (bE b ab)) .nil)
end
end Go.aF
namespace Go.aF
open Go Go.ak
def wy{R:Nat->Prop}(v:Value)(N:List cx):dq R:=⟨λF w=>∃c5 ar,hy 0 w c5 ar v N/\ar<=w.heap.size/\∀b,c5<=b->b<ar->F b,λ⟨c5,ar,h1,aB,ag⟩ hm br _=>⟨c5,ar,by
 rcases h1 with h1|⟨b,gn,bm,bF,cB,⟨dG,g',i7⟩,pa,oi⟩
 . exact .inl h1
 . exact .inr ⟨b,gn,bm,bF,cB,⟨dG,g',i7.keep hm (br b (ag b dG g'))⟩,pa.keep hm λb ab=>br b (ag b ab.1 ab.2),oi.keep hm λb ab=>br b (ag b ab.1 ab.2)⟩,Nat.le_trans aB hm.size,ag⟩⟩
theorem au.UB{R bV:Nat->Prop}{w0 w:World}{L:List (dq R)}{i:Nat}{v:Value}{N:List cx}(h:au R bV w0 w L)(ar:L[i]?=some (wy v N)):∃c5 up,hy 0 w c5 up v N/\up<=w.heap.size:=by
 obtain⟨F,⟨c5,up,h1,ag,_⟩,_⟩:=h.get ar;exact⟨c5,up,h1,ag⟩
theorem au.ME{R bV:Nat->Prop}{w0 w an:World}{L:List (dq R)}{c5 ar:Nat}{v:Value}{N:List cx}(h:au R bV w0 w L)(hm:Ext w an)(aU:hy 0 an c5 ar v N)(h1:w.heap.size<=c5)(ag:ar<=an.heap.size):au R bV w0 an (L++[wy v N]):=
 h.new (F:=dr c5 ar) hm ⟨c5,ar,aU,ag,λb d' q2=>⟨d',q2⟩⟩ λb ab=>⟨Nat.le_trans h1 ab.1,Nat.lt_of_lt_of_le ab.2 ag⟩
end Go.aF
namespace Go.ak
open Go.aF
theorem UC{words:List aj}(h:e7 words=0):∀x∈h7 words,x.2.length<=60:=by
 have bX:=CE h;intro x ah;rw[uh h] at ah;obtain⟨y,aD,rfl⟩:=List.mem_map.1 ah;have h1:=(c4.get (bX.node y aD).1).1;have ag:=Mv _ (fI y.1) (Nat.le_refl _);have aB:=HY y.1;have bE:=aeK h y aD;simp only;omega
theorem CK{words:List aj}(h:e7 words=0):1<=(h7 words).length/\(h7 words).length<=2881:=by
 rw[uh h,va];exact aeJ h
theorem MF{words:List aj}(h:e7 words=0):(hJ (h7 words)).length<=3000000:=by
 have h1:=ad9 (UC h);have ag:=(CK h).2;rw[MB];omega
theorem UD{g:List cx}(h:(hJ g).length<=3000000):(yZ g).length<=3000010:=by
 unfold yZ;split
 . simp
 . rw[nd];rw[MB] at h;omega
theorem ar2(g:List cx)(h:(hJ g).length<=3000000):(yZ g).length<=3000010:=UD h
theorem Ii{words:List aj}(h:e7 words=0):h7 words≠[]:=by
 intro e;have:=(CK h).1;rw[e] at this;simp at this
theorem aeN{words:List aj}(h:e7 words=0):yZ (h7 words)=k0 words:=by
 unfold k0;rw[if_pos h,MA (Ii h)]
theorem aeO{words:List aj}(h:e7 words=0):Ia (h7 words)=e7 words:=by
 rw[h];exact(Uf (Ii h)).symm
theorem Ij(words:List aj):(k0 words).length<=3000010:=by
 unfold k0;split
 . rename_i h;rw[<-MA (Ii h)];exact UD (MF h)
 . simp
theorem CL{words:List aj}(h:e7 words=0):kZ (h7 words)=k0 words:=by unfold k0;rw[if_pos h]
end Go.ak
namespace Go.ak
open Go.aF
def uk(l:List aj):Prop:=∀s∈l,s.length<=1000000000
theorem uk.at{l:List aj}(h:uk l){k:Nat}{x:aj}(ah:l[k]?=some x):x.length<=1000000000:=h x (List.mem_of_getElem? ah)
theorem aeP{l:List aj}(h:qZ l=false):uk l:=by
 intro s aT;unfold qZ at h;simp only[Bool.or_eq_false_iff,List.any_eq_false,decide_eq_true_eq] at h;have:=h.2 s aT;omega
end Go.ak
namespace Go.ak
open Go.aF
structure qy(c:cE):Prop where
 words:uk c.words
 cuts:∀k∈c.cuts,k.text.length<=1000
 wl:c.words.length<=80
 cl:c.cuts.length<=10
theorem qy.of{c:cE}(h:ss c=false):qy c:=by
 unfold ss at h;simp only[Bool.or_eq_false_iff,decide_eq_false_iff_not] at h;obtain⟨⟨h1,ag⟩,aB⟩:=h;refine⟨aeP aB,λk hk=>?_,aed aB,by omega⟩;rw[List.any_eq_false] at ag;have:=ag k hk;simp only[decide_eq_true_eq] at this;omega
theorem aeQ(a b:Key):HC a b=if pw a.len b.len≠0 then pw a.len b.len else Lib.compareBytes a.text b.text:=by
 unfold HC;simp only[oF];split
 . rfl
 . split
   . rfl
   . omega
theorem Ik{a b:Key}:o5 a b=true↔a.len<b.len\/a.len=b.len/\Lib.compareBytes a.text b.text<0:=by
 unfold o5;rw[decide_eq_true_eq,aeQ];unfold pw;by_cases h1:a.len<b.len
 . simp[h1]
 . by_cases ag:a.len>b.len
   . simp[h1,ag];omega
   . have:a.len=b.len:=by omega
     simp[this]
theorem aeR{a b:Key}(h:a.len<b.len):true=o5 a b:=(Ik.2 (.inl h)).symm
theorem aeS{a b:Key}(h1:¬ a.len<b.len)(ag:¬ a.len=b.len):false=o5 a b:=by
 cases h:o5 a b with
 | false=>rfl
 | true=>rw[Ik] at h;rcases h with h|h;exact absurd h h1;exact absurd h.1 ag
theorem aeT{a b:Key}{c:Bool}(ag:a.len=b.len)(h:c=decide (Lib.compareBytes a.text b.text<0)):c=o5 a b:=by
 cases gO:o5 a b with
 | true =>
  rw[Ik] at gO;rcases gO with gO|gO
  . omega
  . rw[h];exact decide_eq_true gO.2
 | false =>
  rw[h];refine decide_eq_false λah=>?_
  have:=Ik.2 (.inr ⟨ag,ah⟩);rw[gO] at this;cases this
theorem aeU{cuts:List Key}{w:aj}{j n:Nat}(hw:word w=true)(h:n=((cuts.take j).filter λc=>!o5 ⟨iN w,w⟩ c).length)(bn:cuts.length<=j):(n:Int)=ofM cuts w:=by
 rw[List.take_of_length_le bn] at h;unfold ofM;rw[if_pos hw,h];rfl
theorem aeV{cuts:List Key}{w:aj}(hw:word w=false):(-1:Int)=ofM cuts w:=by unfold ofM;rw[hw];rfl
theorem ar3(cuts:List Key)(w:aj):-1<=ofM cuts w/\ofM cuts w<=cuts.length:=by
 unfold ofM LS;split
 . have:=List.length_filter_le (λc=>!o5 ⟨iN w,w⟩ c) cuts;omega
 . omega
theorem aeW{cuts:List Key}{w:aj}(hw:word w=true):0<=ofM cuts w:=by unfold ofM;rw[if_pos hw];omega
theorem aeX{cuts:List Key}{shard:Int}{w:aj}(hw:word w=true)(h:ofM cuts w=shard):t' cuts shard w=true:=Sq (aeW hw) h
theorem aeY{cuts:List Key}{shard:Int}{w:aj}(hw:word w=false):t' cuts shard w=false:=Sr (by unfold ofM;rw[hw];simp)
theorem Il(cuts:List Key)(words:List aj)(shard:Int):(rO cuts words shard).length<=words.length:=List.length_filter_le _ _
theorem aeZ{cuts:List Key}{words:List aj}{shard:Int}(h:uk words):uk (rO cuts words shard):=λs aT=>h s (List.mem_filter.1 aT).1
theorem ae0{cuts:List Key}{words:List aj}{shard:Int}(h:v' words):v' (rO cuts words shard):=λs aT=>h s (List.mem_filter.1 aT).1
theorem ae1{c:cE}{shard:Int}{j:Nat}{l:List Int}(ar:l=(List.range j).map (λj:Nat=>1+(shard+(j:Int)) % c.workers))(h1:¬ (j:Int)<c.lP)(ag:j<=c.lP.toNat)(AX:j=0\/within shard 0 ((jf c:Int)-1)=true):l=j3 c shard:=by
 by_cases hw:within shard 0 ((jf c:Int)-1)=true
 . exact LW hw ar aa
 . have bn:j=0:=AX.resolve_right hw;subst bn;rw[ar];exact HG (by simpa using hw)
theorem ae2{c:cE}{shard:Int}{j:Nat}{l:List Int}(ar:l=(List.range j).map (λj:Nat=>1+(shard+(j:Int)) % c.workers))(h1:shard<0\/(jf c:Int)<=shard)(AX:j=0\/within shard 0 ((jf c:Int)-1)=true):l=j3 c shard:=by
 have hw:within shard 0 ((jf c:Int)-1)=false:=by
  unfold within
  rcases h1 with h1|h1
  . rw[decide_eq_false aa];rfl
  . rw[decide_eq_false (p:=shard<=_) aa,Bool.and_false]
 have bn:j=0:=AX.resolve_right (by rw[hw];simp);subst bn;rw[ar];exact HG hw
theorem ae3{shard:Int}{c:cE}(bH:0<=shard)(h1:shard<(jf c:Int)):within shard 0 ((jf c:Int)-1)=true:=by
 unfold within;rw[decide_eq_true bH,decide_eq_true aa];rfl
theorem ae4{W s:Int}{i j:Nat}(ob:(i:Int)<W)(bn:(j:Int)<W)(h:(s+(i:Int)) % W=(s+(j:Int)) % W):i=j:=by
 have h1:=Int.emod_add_mul_ediv (s+(i:Int)) W;have ag:=Int.emod_add_mul_ediv (s+(j:Int)) W;rw[h] at h1;have aB:W*((s+i) / W-(s+j) / W)=(i:Int)-j:=(by rw[Int.mul_sub];omega);by_cases dB:(s+(i:Int)) / W-(s+(j:Int)) / W=0
 . rw[dB] at aB;omega
 . exfalso;rcases Int.lt_or_gt_of_ne dB with bE|bE
   . have:W*((s+i) / W-(s+j) / W)<=W*(-1):=Int.mul_le_mul_of_nonneg_left aa aa
     omega
   . have:W*1<=W*((s+i) / W-(s+j) / W):=Int.mul_le_mul_of_nonneg_left aa aa
     omega
theorem ae5(c:cE)(shard:Int)(x:Int):(j3 c shard).count x=if (j3 c shard).contains x=true then 1 else 0:=by
 have aN:(j3 c shard).Nodup:=by
  unfold j3
  split
  . rename_i hw
    have aT:=oc hw
    have hm:=xx (HF (c:=c) aa)
    rw[List.Nodup,List.pairwise_map]
    refine List.Pairwise.imp_of_mem (R:=λa b=>a≠b) (λ{a b} ax ab mL e=>?_) (List.nodup_range (n:=c.lP.toNat))
    have h1:=List.mem_range.1 ax
    have ag:=List.mem_range.1 ab
    exact mL (ae4 (W:=c.workers) (s:=shard) aa aa aa)
  . simp
 by_cases h:x∈j3 c shard
 . rw[if_pos (by simpa using h)];have h1:=List.nodup_iff_count.1 aN x;have ag:=List.count_pos_iff.2 h;omega
 . rw[if_neg (by simpa using h)];exact List.count_eq_zero.2 h
theorem ae6{c:cE}{worker:Int}{k j:Nat}{l dR:List Int}(h:l=((List.range k).filter (λs:Nat=>(j3 c (s:Int)).contains worker)).map (λs:Nat=>(s:Int)))(ag:dR=l++List.replicate (((j3 c (k:Int)).take j).count worker) (k:Int))(bn:(j3 c (k:Int)).length<=j):
 dR=((List.range (k+1)).filter (λs:Nat=>(j3 c (s:Int)).contains worker)).map (λs:Nat=>(s:Int)):=by
 rw[List.take_of_length_le bn,ae5] at ag;rw[ag,List.range_succ,List.filter_append,List.map_append,<-h];congr 1
 by_cases al:(j3 c (k:Int)).contains worker=true
 . rw[if_pos al,List.filter_cons_of_pos (p:=λs:Nat=>(j3 c (s:Int)).contains worker) al];rfl
 . rw[if_neg al,List.filter_cons_of_neg (p:=λs:Nat=>(j3 c (s:Int)).contains worker) al];rfl
theorem ae7{l dR w:List Int}{worker x k:Int}{j:Nat}(ag:dR=l++List.replicate ((w.take j).count worker) k)(ah:w[j]?=some x)(he:x=worker):dR++[k]=l++List.replicate ((w.take (j+1)).count worker) k:=by
 rw[ag,List.take_add_one,ah,List.count_append,he];simp[List.replicate_succ']
theorem ae8{l dR w:List Int}{worker x k:Int}{j:Nat}(ag:dR=l++List.replicate ((w.take j).count worker) k)(ah:w[j]?=some x)(he:¬ x=worker):dR=l++List.replicate ((w.take (j+1)).count worker) k:=by
 rw[ag,List.take_add_one,ah,List.count_append];simp[he]
def vf(c:cE)(shard:Int):List aj:=if 0<=shard/\shard<(jf c:Int) then rO c.cuts c.words shard else[]
theorem ae9{c:cE}{shard:Int}(h:shard<0\/(jf c:Int)<=shard):[]=vf c shard:=by unfold vf;rw[if_neg aa]
theorem UE{c:cE}{shard:Int}(h:0<=shard)(ag:shard<(jf c:Int)):rO c.cuts c.words shard=vf c shard:=by unfold vf;rw[if_pos ⟨h,ag⟩]
def gY(c:cE)(shard:Int):List UInt8:=if 0<=shard/\shard<(jf c:Int) then k0 (rO c.cuts c.words shard) else[]
def wz(c:cE)(shard:Int):Int:=if 0<=shard/\shard<(jf c:Int) then e7 (rO c.cuts c.words shard) else 4
theorem Im{c:cE}{shard:Int}(h:shard<0\/(jf c:Int)<=shard):([]:List UInt8)=gY c shard/\(4:Int)=wz c shard:=by unfold gY wz;rw[if_neg aa,if_neg aa];exact⟨rfl,rfl⟩
theorem E1{c:cE}{shard:Int}(h:0<=shard)(ag:shard<(jf c:Int)):k0 (rO c.cuts c.words shard)=gY c shard/\e7 (rO c.cuts c.words shard)=wz c shard:=by unfold gY wz;rw[if_pos ⟨h,ag⟩,if_pos ⟨h,ag⟩];exact⟨rfl,rfl⟩
theorem UF(c:cE)(shard:Int):(gY c shard).length<=3000010:=by
 unfold gY;split
 . exact Ij _
 . simp
theorem UG(c:cE)(shard:Int):(j3 c shard).length<=3:=by
 unfold j3;split
 . rename_i hw;have aT:=oc hw;have hm:=xx (HF (c:=c) aa);simp;omega
 . simp
theorem AY(c:cE)(worker:Int):(b0 c worker).length<=6:=by
 unfold b0;rw[List.length_map];have h1:=List.length_filter_le (λs:Nat=>(j3 c (s:Int)).contains worker) (List.range (jf c));have ag:=u3 c;rw[List.length_range] at h1;omega
end Go.ak
theorem Go.ak.ae_(c:Go.ak.cE)(shard:Int):(Go.ak.vf c shard).length<=c.words.length:=by
 unfold Go.ak.vf;split
 . exact Go.ak.Il _ _ _
 . simp
theorem Go.ak.ae'(c:Go.ak.cE)(shard:Int):0<=Go.ak.wz c shard/\Go.ak.wz c shard<=100:=by
 unfold Go.ak.wz;split
 . have:=Go.ak.yK (Go.ak.rO c.cuts c.words shard);omega
 . omega
namespace Go.ak
open Go.aF
def ea(b:List UInt8)(size:Nat)(s:Int×Bool):Int×(Int×Bool):=if mN b s.1 size=true then(j' b s.1 size,(s.1+size,s.2)) else(0,(s.1,true))
theorem y3{b:List UInt8}{size:Nat}{a:Int}{q:Bool}(h:mN b a size=false):ea b size (a,q)=(0,(a,true)):=by unfold ea;rw[if_neg (by simp[h])]
theorem vg{b:List UInt8}{size:Nat}{a:Int}{q:Bool}(h:mN b a size=true):ea b size (a,q)=(j' b a size,(a+size,q)):=by unfold ea;rw[if_pos h]
theorem UH{b:List UInt8}{a:Int}{size:Nat}(h:size<=4):j' b a size<4294967296:=by
 unfold j';split
 . have:=Mx (i:=size) (l:=b.drop a.toNat) h;simp only[Int.toNat_natCast];omega
 . omega
theorem q9{b:List UInt8}{size:Nat}{a f a2:Int}{q q2:Bool}(aT:size<=4)(ax:0<=a/\a<=b.length)(h:ea b size (a,q)=(f,(a2,q2))):0<=f/\f<4294967296/\a<=a2/\a2<=b.length/\a2<=a+size/\(q=true->q2=true)/\(q2=false->a2=a+size):=by
 have bH:=My b a size;have h1:=UH (b:=b) (a:=a) aT
 cases bX:mN b a size with
 | false =>
  rw[y3 bX] at h;simp only[Prod.mk.injEq] at h;obtain⟨rfl,rfl,rfl⟩:=h;exact⟨by omega,by omega,by omega,by omega,by omega,λ_=>rfl,λh=>by cases h⟩
 | true =>
  rw[vg bX] at h;simp only[Prod.mk.injEq] at h;obtain⟨rfl,rfl,rfl⟩:=h;unfold mN at bX;have:=of_decide_eq_true bX;exact⟨bH,h1,by omega,by omega,by omega,id,λ_=>rfl⟩
theorem AZ{b:List UInt8}{a f a2:Int}{q q2:Bool}{size:Nat}(h:ea b size (a,q)=(f,(a2,q2)))(aT:size<=2):f<65536:=by
 cases bX:mN b a size with
 | false =>
  rw[y3 bX] at h;simp only[Prod.mk.injEq] at h;omega
 | true =>
  rw[vg bX] at h;simp only[Prod.mk.injEq] at h;rw[<-h.1];unfold j';rw[if_pos bX];have h1:=Mw (l:=(b.drop a.toNat).take size);have ag:((b.drop a.toNat).take size).length<=2:=(by rw[List.length_take];omega);have aB:256 ^ ((b.drop a.toNat).take size).length<=256 ^ 2:=Nat.pow_le_pow_right aa ag;simp only[Int.toNat_natCast];omega
def rW(b:List UInt8)(s:Int×Bool):cg×(Int×Bool):=
 let r:=ea b 4 s
 let t:=ea b 2 (r.2.1,r.2.2 || decide (r.1>1114111))
 (cg.mk (IntKind.i32.wrap r.1) t.1,t.2)
def kt(b:List UInt8):Nat->Int×Bool->List cg×(Int×Bool)
 | 0,s=>([],s)
 | n+1,s=>if s.2=true then([],s) else((rW b s).1::(kt b n (rW b s).2).1,(kt b n (rW b s).2).2)
def mb(b:List UInt8)(s:Int×Bool):cx×(Int×Bool):=
 let f:=ea b 1 s
 let c:=ea b 2 (f.2.1,f.2.2 || decide (f.1>1))
 let r:=kt b c.1.toNat c.2
 ((decide (f.1=1),r.1),r.2)
def lh(b:List UInt8):Nat->Int×Bool->List cx×(Int×Bool)
 | 0,s=>([],s)
 | n+1,s=>if s.2=true then([],s) else((mb b s).1::(lh b n (mb b s).2).1,(lh b n (mb b s).2).2)
def qz(b:List UInt8)(n:Nat)(dD:Int×Bool)(i:Nat)(es:List cg)(s:Int×Bool):Prop:=kt b n dD=(es++(kt b (n-i) s).1,(kt b (n-i) s).2)
theorem qz.start(b:List UInt8)(n:Nat)(s:Int×Bool):qz b n s 0 [] s:=by unfold qz;simp
theorem qz.step{b:List UInt8}{n i:Nat}{dD:Int×Bool}{a:Int}{es:List cg}{e:cg}{j0:Int×Bool}(h:qz b n dD i es (a,false))(ar:i<n)(he:rW b (a,false)=(e,j0)):qz b n dD (i+1) (es++[e]) j0:=by
 unfold qz at *;rw[h];obtain⟨m,hm⟩:∃m,n-i=m+1:=⟨n-i-1,by omega⟩;rw[hm,show n-(i+1)=m from by omega]
 conv=>lhs;unfold kt
 rw[if_neg di,he];simp
theorem qz.bad{b:List UInt8}{n i:Nat}{dD:Int×Bool}{a:Int}{es:List cg}(h:qz b n dD i es (a,true)):kt b n dD=(es,(a,true)):=by
 unfold qz at h;rw[h]
 cases n-i with
 | zero=>simp[kt]
 | succ m=>unfold kt;simp
theorem qz.fin{b:List UInt8}{n i:Nat}{dD:Int×Bool}{es:List cg}{s:Int×Bool}(h:qz b n dD i es s)(ar:n<=i):kt b n dD=(es,s):=by
 unfold qz at h;rw[show n-i=0 from by omega] at h;rw[h];simp[kt]
end Go.ak
namespace Go.ak
open Go.aF
theorem afa{b:List UInt8}{s:Int×Bool}{f h9 t a2:Int}{d' X q2:Bool}(h1:(f,h9,d')=ea b 4 s)(rX:X=(d' || decide (f>1114111)))(ag:(t,a2,q2)=ea b 2 (h9,X)):rW b s=(cg.mk (IntKind.i32.wrap f) t,(a2,q2)):=by
 unfold rW;simp only[<-h1,<-rX,<-ag]
theorem Io{b:List UInt8}{a:Int}{q:Bool}{f h9 c a2 a3:Int}{d' X q2 fF fin:Bool}{es:List cg}(h1:(f,h9,d')=ea b 1 (a,q))(rX:X=(d' || decide (f>1)))(ag:(c,a2,q2)=ea b 2 (h9,X))(aB:kt b c.toNat (a2,q2)=(es,(a3,fF)))(bC:fin=(f==1)):mb b (a,q)=((fin,es),(a3,fF)):=by
 unfold mb;simp only[<-h1,<-rX,<-ag,aB,bC];rfl
end Go.ak
namespace Go.aF
open Go Go.ak
def y4{R:Nat->Prop}(k1 MG:TypeId)(b:Nat)(fin:Bool)(es:List cg):dq R:=nN λv:Value=>bl [ay b [.bool fin,v] k1,aS e2 MG 2 v es]
end Go.aF
namespace Go.ak
open Go.aF
def oj{b8:Type}(g:b8->cg->Bool×b8):b8->List cg->Bool×b8
 | s,[]=>(true,s)
 | s,e::r=>if (g s e).1=true then oj g (g s e).2 r else(false,(g s e).2)
theorem UI{b8:Type}{g:b8->cg->Bool×b8}{s:b8}{l:List cg}{k:Nat}{e:cg}{R:Bool×b8}(h:R=oj g s (l.drop k))(ah:l[k]?=some e)(aU:(g s e).1=true):R=oj g (g s e).2 (l.drop (k+1)):=by
 rw[h,wq ah]
 conv=>lhs;unfold oj
 rw[if_pos aU]
theorem UJ{b8:Type}{g:b8->cg->Bool×b8}{s:b8}{l:List cg}{k:Nat}{e:cg}{R:Bool×b8}(h:R=oj g s (l.drop k))(ah:l[k]?=some e)(aU:(g s e).1=false):R=(false,(g s e).2):=by
 rw[h,wq ah]
 conv=>lhs;unfold oj
 rw[if_neg (by simp[aU])]
theorem UK{b8:Type}{g:b8->cg->Bool×b8}{s:b8}{l:List cg}{k:Nat}{R:Bool×b8}(h:R=oj g s (l.drop k))(hk:l.length<=k):R=(true,s):=by
 rw[h,List.drop_of_length_le hk];rfl
def ih(N:List cx):Nat->Nat->Int->List Int->Bool×List Int
 | 0,_,_,st=>(false,st)
 | f+1,n,d,st=>match N[n]? with
  | none=>(false,st)
  | some x=>if st[n]?=some 2 then(true,st) else if st[n]?=some 1\/d>12\/(x.1=false/\x.2=[]) then(false,st) else
   if (oj (λst e=>ih N f e.to.toNat (d+1) st) (st.set n 1) x.2).1=true then(true,(oj (λst e=>ih N f e.to.toNat (d+1) st) (st.set n 1) x.2).2.set n 2) else(false,(oj (λst e=>ih N f e.to.toNat (d+1) st) (st.set n 1) x.2).2)
section
variable {N:List cx} {f n:Nat} {d:Int} {st:List Int} {x:cx} {y:Int}
theorem E2(ah:N[n]?=some x)(aD:st[n]?=some y)(h:y=2):ih N (f+1) n d st=(true,st):=by
 subst h;unfold ih;rw[ah];simp only;rw[aD,if_pos rfl]
theorem Ip(ah:N[n]?=some x)(aD:st[n]?=some y)(h:¬ y=2)(ag:y=1\/d>12\/(x.1=false/\x.2=[])):ih N (f+1) n d st=(false,st):=by
 unfold ih;rw[ah];simp only;rw[aD,if_neg (by simpa using h),if_pos (by simpa using ag)]
theorem MH(ah:N[n]?=some x)(aD:st[n]?=some y)(h:¬ y=2)(ag:¬ (y=1\/d>12\/(x.1=false/\x.2=[]))){R:Bool×List Int}(fo:R=oj (λst e=>ih N f e.to.toNat (d+1) st) (st.set n 1) x.2):ih N (f+1) n d st=if R.1=true then(true,R.2.set n 2) else(false,R.2):=by
 subst fo
 conv=>lhs;unfold ih
 rw[ah];simp only;rw[aD,if_neg (by simpa using h),if_neg (by simpa using ag)]
end
theorem UL{N:List cx}{f n:Nat}{d:Int}{st j0:List Int}{x:cx}{y:Int}(ah:N[n]?=some x)(aD:st[n]?=some y)(h:¬ y=2)(ag:¬ (y=1\/d>12\/(x.1=false/\x.2=[])))(fo:oj (λst e=>ih N f e.to.toNat (d+1) st) (st.set n 1) x.2=(false,j0)):ih N (f+1) n d st=(false,j0):=by
 rw[MH ah aD h ag fo.symm];simp
theorem UM{N:List cx}{f n:Nat}{d:Int}{st j0:List Int}{x:cx}{y:Int}(ah:N[n]?=some x)(aD:st[n]?=some y)(h:¬ y=2)(ag:¬ (y=1\/d>12\/(x.1=false/\x.2=[])))(fo:oj (λst e=>ih N f e.to.toNat (d+1) st) (st.set n 1) x.2=(true,j0)):ih N (f+1) n d st=(true,j0.set n 2):=by
 rw[MH ah aD h ag fo.symm];simp
theorem UN{g:List Int->cg->Bool×List Int}{m:Nat}(aU:∀s e,s.length=m->(g s e).2.length=m):∀(l:List cg) (s:List Int),s.length=m->(oj g s l).2.length=m
 | [],s,h=>h
 | e::l,s,h=>by
  unfold oj
  split
  . exact UN aU l _ (aU s e h)
  . exact aU s e h
theorem Iq(N:List cx):∀(f n:Nat) (d:Int) (st:List Int),(ih N f n d st).2.length=st.length
 | 0,_,_,_=>rfl
 | f+1,n,d,st=>by
  unfold ih
  split
  . rfl
  . split
    . rfl
    . split
      . rfl
      . have:=UN (g:=λst e=>ih N f e.to.toNat (d+1) st) (m:=st.length) (λs e h=>(Iq N f _ _ s).trans h) (‹cx›.2) (st.set n 1) di
        split
        . simp only[List.length_set];exact this
        . exact this
def sC(N:List cx):Bool:=(decide (N.length=1) && decide ((N[0]?.map (·.2.length))=some 0)) || (ih N 14 0 0 (List.replicate N.length 0)).1
theorem MI{N:List cx}{x:cx}(h:N.length=1)(ah:N[0]?=some x)(ag:x.2.length=0):sC N=true:=by
 unfold sC;rw[ah];simp[h,ag]
theorem MJ{N:List cx}{b:Bool}(ab:(ih N 14 0 0 (List.replicate N.length 0)).1=b)(h:N.length≠1\/∃x,N[0]?=some x/\x.2.length≠0):sC N=b:=by
 subst ab;unfold sC;rcases h with h|⟨x,ah,ag⟩
 . simp[h]
 . rw[ah];simp[ag]
theorem y5(r:Int):(fE r).length<=4:=by
 unfold fE Utf8.encode;simp only;repeat' split
 all_goals first|(simp;done)|(simp only[ByteArray.ar4,List.toArray_toList];decide)|rfl|decide|simp
theorem UO{b8:Type}{g:b8->cg->b8}{s:b8}{l:List cg}{k:Nat}{e:cg}{R:b8}(h:R=(l.drop k).foldl g s)(ah:l[k]?=some e):R=(l.drop (k+1)).foldl g (g s e):=by
 rw[h,wq ah];rfl
theorem UP{b8:Type}{g:b8->cg->b8}{s:b8}{l:List cg}{k:Nat}{R:b8}(h:R=(l.drop k).foldl g s)(hk:l.length<=k):R=s:=by
 rw[h,List.drop_of_length_le hk];rfl
def nP(N:List cx):Nat->Nat->aj->Int->List aj×Bool->List aj×Bool
 | 0,_,_,_,s=>(s.1,false)
 | f+1,n,a,d,s=>if s.2=false\/s.1.length>60\/d>12 then(s.1,false) else match N[n]? with
  | none=>(s.1,false)
  | some x=>x.2.foldl (λs e=>nP N f e.to.toNat (a++fE e.rune) (d+1) s) (if x.1=true then(s.1++[a],s.2) else s)
section
variable {N:List cx} {f n:Nat} {d:Int} {a:aj} {l:List aj} {ok:Bool} {x:cx}
theorem MK(h:ok=false\/l.length>60\/d>12):nP N (f+1) n a d (l,ok)=(l,false):=by
 unfold nP;rw[if_pos h]
theorem ML(h:¬ (ok=false\/l.length>60\/d>12))(ah:N[n]?=some x){R dD:List aj×Bool}(bH:dD=if x.1=true then(l++[a],ok) else(l,ok))(fo:x.2.foldl (λs e=>nP N f e.to.toNat (a++fE e.rune) (d+1) s) dD=R):nP N (f+1) n a d (l,ok)=R:=by
 conv=>lhs;unfold nP
 rw[if_neg h,ah];simp only;rw[<-fo,bH]
end
theorem UQ{g:List aj×Bool->cg->List aj×Bool}(aU:∀s e,s.1.length<=61->(g s e).1.length<=61):∀(l:List cg) (s:List aj×Bool),s.1.length<=61->(l.foldl g s).1.length<=61
 | [],s,h=>h
 | e::l,s,h=>UQ aU l _ (aU s e h)
theorem E3(N:List cx):∀(f n:Nat) (a:aj) (d:Int) (s:List aj×Bool),s.1.length<=61->(nP N f n a d s).1.length<=61
 | 0,_,_,_,s,h=>h
 | f+1,n,a,d,s,h=>by
  unfold nP
  split
  . exact h
  . next aN =>
    split
    . exact h
    . refine UQ (λs e h=>E3 N f _ _ _ s h) _ _ ?_
      have:¬ s.1.length>60:=λh=>aN (.inr (.inl h))
      split
      . simp only[List.length_append,List.length_cons,List.length_nil];omega
      . exact h
def km(N:List cx):List aj×Bool:=
 let r:=nP N 14 0 [] 0 ([],true)
 (r.1,r.2 && decide (r.1.length<=60))
theorem UR{N:List cx}{l:List aj}{ok v:Bool}(h:(l,ok)=nP N 14 0 [] 0 ([],true))(cN:v=(ok && decide (l.length<=60))):km N=(l,v):=by
 unfold km;simp only[<-h,cN]
theorem US{g:List aj×Bool->cg->List aj×Bool}(aU:∀s e,(∀t∈s.1,t.length<=1000)->∀t∈(g s e).1,t.length<=1000):∀(l:List cg) (s:List aj×Bool),(∀t∈s.1,t.length<=1000)->∀t∈(l.foldl g s).1,t.length<=1000
 | [],s,h=>h
 | e::l,s,h=>US aU l _ (aU s e h)
theorem UT(N:List cx):∀(f n:Nat) (a:aj) (d:Int) (s:List aj×Bool),(a.length:Int)<=4*d->(∀t∈s.1,t.length<=1000)->∀t∈(nP N f n a d s).1,t.length<=1000
 | 0,_,_,_,s,_,h=>h
 | f+1,n,a,d,s,ax,h=>by
  unfold nP
  split
  . exact h
  . next aN =>
    split
    . exact h
    . refine US (λs e h=>UT N f _ _ _ s (by have:=y5 e.rune;simp only[List.length_append];omega) h) _ _ ?_
      have:¬ d>12:=λh=>aN (.inr (.inr h))
      split
      . intro t a8
        rcases List.mem_append.1 a8 with a8|a8
        . exact h t a8
        . simp only[List.mem_singleton] at a8;subst a8;omega
      . exact h
theorem afb(N:List cx):∀t∈(km N).1,t.length<=1000:=UT N 14 0 [] 0 ([],true) di (λt a8=>by cases a8)
theorem afc(N:List cx):v' (km N).1:=λt a8=>by have:=afb N t a8;omega
theorem afd(N:List cx):(km N).1.length<=61:=E3 N 14 0 [] 0 ([],true) di
def xI(N:List cx):Bool:=N.all λx=>x.2.all λe=>decide (1<=e.to/\e.to<(N.length:Int))
def CM(N:List cx):Option (List aj):=
 if xI N=true/\N.length≠0/\N.length<=721/\sC N=true/\(km N).2=true/\e7 (km N).1=0/\h7 (km N).1=N then some (km N).1 else none
def lB(N:List cx):List cx:=match CM N with
 | none=>[]
 | some l=>h7 l
theorem xJ{N:List cx}(h:¬ (xI N=true/\N.length≠0/\N.length<=721/\sC N=true/\(km N).2=true/\e7 (km N).1=0/\h7 (km N).1=N)):lB N=[]:=by
 unfold lB CM;rw[if_neg h]
theorem UU{N:List cx}(h:xI N=true/\N.length≠0/\N.length<=721/\sC N=true/\(km N).2=true/\e7 (km N).1=0/\h7 (km N).1=N):lB N=h7 (km N).1:=by
 unfold lB CM;rw[if_pos h]
theorem Ir{N:List cx}:xI N=true↔∀x∈N,∀e∈x.2,1<=e.to/\e.to<(N.length:Int):=by
 unfold xI;simp
theorem y6{N:List cx}{k i:Nat}{x:cx}{e:cg}(ah:N[k]?=some x)(he:x.2[i]?=some e)(h:¬ (1<=e.to/\e.to<(N.length:Int))):¬ xI N=true:=λa'=>h (Ir.1 a' x (List.mem_of_getElem? ah) e (List.mem_of_getElem? he))
theorem Is{N M:List cx}(h:N.length≠M.length):decide (N=M)=false:=decide_eq_false λe=>h (by rw[e])
theorem E4{N M:List cx}{k:Nat}{a b:cx}(ax:N[k]?=some a)(ab:M[k]?=some b)(h:a≠b):decide (N=M)=false:=decide_eq_false λe=>h (by subst e;exact Option.some.inj (ax.symm.trans ab))
theorem It{N M:List cx}{k i:Nat}{a b:cx}{x y:cg}(ax:N[k]?=some a)(ab:M[k]?=some b)(ah:a.2[i]?=some x)(aD:b.2[i]?=some y)(h:x≠y):decide (N=M)=false:=E4 ax ab λe=>h (by subst e;exact Option.some.inj (ah.symm.trans aD))
theorem UW{α:Type}{N M:List α}{k:Nat}{a:α}(h:N.take k=M.take k)(ax:N[k]?=some a)(ab:M[k]?=some a):N.take (k+1)=M.take (k+1):=by
 rw[List.take_add_one,List.take_add_one,h,ax,ab]
theorem UX{α:Type}{N M:List α}{k:Nat}(h:N.take k=M.take k)(h1:N.length<=k)(ag:M.length<=k):N=M:=by
 rwa[List.take_of_length_le h1,List.take_of_length_le ag] at h
theorem afe{a b:cx}(h1:a.1=b.1)(ag:a.2=b.2):a=b:=Prod.ext h1 ag
end Go.ak
namespace Go.aF
open Go Go.ak
theorem MM{w:World}{ev g:Nat}{e aff:TypeId}{v:Value}{bm:List c8}{N:List cx}{G:Nat->Prop}(ab:du w ev [v] e)(ax:Acc fw aff 2 w g v bm)(aU:g<=w.heap.size)(a':j6 w G bm N)(ch:∀b,G b->b<w.heap.size):
 Row w ev 0 [v]/\ev<w.heap.size/\aq fw w (λb=>b<w.heap.size) v bm/\j6 w (λb=>b<w.heap.size) bm N:=
 ⟨ab.row,ab.lt,ax.b9.mono λb h=>Nat.lt_of_lt_of_le h.2 aU,a'.mono ch⟩
theorem afg{w:World}{c5 ar:Nat}{v:Value}{N:List cx}(h:hy 0 w c5 ar v N)(hr:N≠[])(hF:ar<=w.heap.size):
 ∃b gn bm,v=ptr b 0/\Row w b 0 [gn]/\b<w.heap.size/\aq fw w (λb=>b<w.heap.size) gn bm/\j6 w (λb=>b<w.heap.size) bm N:=by
 rcases h with ⟨_,h⟩|⟨b,gn,bm,h1,ag,aB,bE,c3⟩
 . exact absurd h hr
 . exact⟨b,gn,bm,h1,aB.2.2,Nat.lt_of_lt_of_le aB.2.1 hF,bE.mono λb q=>Nat.lt_of_lt_of_le q.2 hF,c3.mono λb q=>Nat.lt_of_lt_of_le q.2 hF⟩
theorem au.UY{R:Nat->Prop}{w0 w:World}{L:List (dq R)}{i:Nat}{v:Value}{N:List cx}(h:au R (λ_=>False) w0 w L)(ar:L[i]?=some (wy v N))(hr:N≠[]):∃c5 up,hy 0 w c5 up v N/\w0.heap.size<=c5/\up<=w.heap.size:=by
 obtain⟨F,⟨c5,up,h1,ag,bE⟩,aB,_⟩:=h.act ar;refine⟨c5,up,h1,?_,ag⟩;rcases h1 with ⟨_,h1⟩|⟨b,gn,bm,bF,cB,⟨dG,g',i7⟩,pa,oi⟩
 . exact absurd h1 hr
 . exact(aB c5 (bE c5 (Nat.le_refl _) aa)).1.1.resolve_left id
end Go.aF
namespace Go.aF
open Go Go.ak
def UZ{R:Nat->Prop}(afh Iu iu afi rR MN:Nat)(mc e_ iE h3 ev:Nat)(s:List aj×Bool):dq R:=bl [ay mc [.bool s.2] afh,qw Iu rR 1 cz e_ s.1,ay iE [ptr ev 0] iu,ay h3 [.func (.func MN) #[] #[ptr mc 0,ptr e_ 0,ptr iE 0,ptr h3 0]] afi]
def U0{R:Nat->Prop}(t1 t3 p9 t4 MN:Nat)(aK bx bK ev:Nat)(nQ:Value)(st:List Int):dq R:=bl [ay aK [ptr ev 0] t1,ay bx [nQ] t3,aS aF.encI p9 1 nQ st,ay bK [.func (.func MN) #[] #[ptr aK 0,ptr bx 0,ptr bK 0]] t4]
end Go.aF
namespace Go.aF
open Go
theorem A0{P:Program}{f:FuncId}{r:List Value}{w:World}{K:Ending->World->Prop}{n:Nat}{m:Int}(h:Calls P f (.int .i64 (n:Int)::r).toArray w K)(aN:m=(n:Int)):Calls P f (.int .i64 m::r).toArray w K:=by subst aN;exact h
end Go.aF
namespace Go.ak
open Go.aF
def rY(b:List UInt8)(n:Nat)(dD:Int×Bool)(i:Nat)(N:List cx)(s:Int×Bool):Prop:=lh b n dD=(N++(lh b (n-i) s).1,(lh b (n-i) s).2)
theorem rY.start(b:List UInt8)(n:Nat)(s:Int×Bool):rY b n s 0 [] s:=by unfold rY;simp
theorem rY.step{b:List UInt8}{n i:Nat}{dD:Int×Bool}{a:Int}{N:List cx}{e:cx}{j0:Int×Bool}(h:rY b n dD i N (a,false))(ar:i<n)(he:(e,j0)=mb b (a,false)):rY b n dD (i+1) (N++[e]) j0:=by
 unfold rY at *;rw[h];obtain⟨m,hm⟩:∃m,n-i=m+1:=⟨n-i-1,by omega⟩;rw[hm,show n-(i+1)=m from by omega]
 conv=>lhs;unfold lh
 rw[if_neg di,<-he];simp
theorem rY.bad{b:List UInt8}{n i:Nat}{dD:Int×Bool}{a:Int}{N:List cx}(h:rY b n dD i N (a,true)):lh b n dD=(N,(a,true)):=by
 unfold rY at h;rw[h]
 cases n-i with
 | zero=>simp[lh]
 | succ m=>unfold lh;simp
theorem rY.fin{b:List UInt8}{n i:Nat}{dD:Int×Bool}{N:List cx}{s:Int×Bool}(h:rY b n dD i N s)(ar:n<=i):lh b n dD=(N,s):=by
 unfold rY at h;rw[show n-i=0 from by omega] at h;rw[h];simp[lh]
theorem U1(b:List UInt8):∀(n:Nat) (s:Int×Bool),(kt b n s).1.length<=n
 | 0,s=>by simp[kt]
 | n+1,s=>by
  unfold kt
  split
  . simp
  . simp only[List.length_cons];have:=U1 b n (rW b s).2;omega
theorem afj(b:List UInt8)(s:Int×Bool):(mb b s).1.2.length<=65535:=by
 unfold mb;simp only;generalize cS:ea b 2 ((ea b 1 s).2.1,(ea b 1 s).2.2 || decide ((ea b 1 s).1>1))=z;obtain⟨afk,z2,z3⟩:=z;have ag:=AZ cS aa;have h1:=U1 b afk.toNat (z2,z3);simp only;omega
theorem Iv{b:List UInt8}{size:Nat}{s:Int×Bool}(aT:size<=4)(ax:0<=s.1/\s.1<=b.length):0<=(ea b size s).2.1/\(ea b size s).2.1<=b.length:=by
 have:=q9 (a:=s.1) (q:=s.2) aT ax (f:=(ea b size s).1) (a2:=(ea b size s).2.1) (q2:=(ea b size s).2.2) rfl;omega
theorem afl{b:List UInt8}{s:Int×Bool}(ax:0<=s.1/\s.1<=b.length):0<=(rW b s).2.1/\(rW b s).2.1<=b.length:=by
 unfold rW;exact Iv aa (Iv aa ax)
theorem U2{b:List UInt8}:∀(n:Nat) (s:Int×Bool),0<=s.1/\s.1<=b.length->0<=(kt b n s).2.1/\(kt b n s).2.1<=b.length
 | 0,s,ax=>ax
 | n+1,s,ax=>by
  unfold kt
  split
  . exact ax
  . exact U2 n _ (afl ax)
theorem afm{b:List UInt8}{a a2:Int}{q q2:Bool}{x:cx}(ax:0<=a/\a<=b.length)(h:(x,(a2,q2))=mb b (a,q)):0<=a2/\a2<=b.length:=by
 have:(mb b (a,q)).2.1=a2:=by rw[<-h]
 rw[<-this];unfold mb;exact U2 _ _ (Iv (s:=(_,_)) aa (Iv (s:=(_,_)) aa ax))
def iv(b:List UInt8):List cx×Int:=
 if b.length<4 then([],9) else
 if ¬ j' b ((b.length:Int)-4) 4=(kE (b.take (b.length-4)):Int) then([],9) else
 if b.length-4<4\/¬ b.take 4=[73,78,75,49] then([],8) else
 if (lh (b.take (b.length-4)) (ea (b.take (b.length-4)) 2 (4,false)).1.toNat (ea (b.take (b.length-4)) 2 (4,false)).2).2.2=true\/¬ (lh (b.take (b.length-4)) (ea (b.take (b.length-4)) 2 (4,false)).1.toNat (ea (b.take (b.length-4)) 2 (4,false)).2).2.1=(b.length:Int)-4 then([],8) else
 if lB (lh (b.take (b.length-4)) (ea (b.take (b.length-4)) 2 (4,false)).1.toNat (ea (b.take (b.length-4)) 2 (4,false)).2).1=[] then([],8) else
 (lB (lh (b.take (b.length-4)) (ea (b.take (b.length-4)) 2 (4,false)).1.toNat (ea (b.take (b.length-4)) 2 (4,false)).2).1,0)
section
variable {b:List UInt8}
theorem Iw(h:b.length<4):iv b=([],9):=by unfold iv;rw[if_pos h]
theorem CN(h1:¬ b.length<4)(ag:¬ j' b ((b.length:Int)-4) 4=(kE (b.take (b.length-4)):Int)):iv b=([],9):=by unfold iv;rw[if_neg h1,if_pos ag]
theorem MO(h1:¬ b.length<4)(ag:j' b ((b.length:Int)-4) 4=(kE (b.take (b.length-4)):Int))(aB:b.length-4<4\/¬ b.take 4=[73,78,75,49]):iv b=([],8):=by unfold iv;rw[if_neg h1,if_neg (λk=>k ag),if_pos aB]
variable {N:List cx} {a c a0:Int} {q q0:Bool}
theorem Ix(h1:¬ b.length<4)(ag:j' b ((b.length:Int)-4) 4=(kE (b.take (b.length-4)):Int))(aB:¬ (b.length-4<4\/¬ b.take 4=[73,78,75,49]))(bE:(c,(a0,q0))=ea (b.take (b.length-4)) 2 (4,false))(c3:lh (b.take (b.length-4)) c.toNat (a0,q0)=(N,(a,q)))(eX:q=true\/¬ a=(b.length:Int)-4):iv b=([],8):=by
 unfold iv;rw[if_neg h1,if_neg (λk=>k ag),if_neg aB,<-bE];simp only[c3];rw[if_pos eX]
theorem U3(h1:¬ b.length<4)(ag:j' b ((b.length:Int)-4) 4=(kE (b.take (b.length-4)):Int))(aB:¬ (b.length-4<4\/¬ b.take 4=[73,78,75,49]))(bE:(c,(a0,q0))=ea (b.take (b.length-4)) 2 (4,false))(c3:lh (b.take (b.length-4)) c.toNat (a0,q0)=(N,(a,q)))(eX:¬ (q=true\/¬ a=(b.length:Int)-4))(kC:lB N=[]):iv b=([],8):=by
 unfold iv;rw[if_neg h1,if_neg (λk=>k ag),if_neg aB,<-bE];simp only[c3];rw[if_neg eX,if_pos kC]
theorem MP(h1:¬ b.length<4)(ag:j' b ((b.length:Int)-4) 4=(kE (b.take (b.length-4)):Int))(aB:¬ (b.length-4<4\/¬ b.take 4=[73,78,75,49]))(bE:(c,(a0,q0))=ea (b.take (b.length-4)) 2 (4,false))(c3:lh (b.take (b.length-4)) c.toNat (a0,q0)=(N,(a,q)))(eX:¬ (q=true\/¬ a=(b.length:Int)-4))(kC:lB N≠[]):iv b=(lB N,0):=by
 unfold iv;rw[if_neg h1,if_neg (λk=>k ag),if_neg aB,<-bE];simp only[c3];rw[if_neg eX,if_neg kC]
end
end Go.ak
namespace Go.aF
open Go Go.ak
def A1{R:Nat->Prop}(bm:List c8)(N:List cx):dq R:=⟨λF w=>j6 w F bm N,λh hm br _=>h.keep hm br⟩
theorem afn{R F:Nat->Prop}{w:World}{e:TypeId}{bm:List c8}{N:List cx}{x:c8}{n:cx}{v:Value}{es:List cg}(cN:v=x.e.val)(bC:x.fin=n.1)(aN:es=n.2)(h:(bl (R:=R) [A1 bm N,aS e2 e 2 v es]).p F w):(A1 (R:=R) (bm++[x]) (N++[n])).p F w:=by
 obtain⟨fr,bw,h1,ag,aB,bE⟩:=vd h;exact c4.app (j6.mono h1 aB) (.cons ⟨bC,cN▸aN▸(tn ag).mono bE⟩ .nil)
end Go.aF
namespace Go.ak
open Go.aF
theorem wrap_small{x:Int}(bH:0<=x)(h:x<4294967296):IntKind.u64.wrap x=x:=by
 have:(IntKind.u64.wrap x)=x % 18446744073709551616:=by unfold IntKind.wrap;rfl
 rw[this];omega
theorem U4{x:Int}(bH:0<=x)(h:x<256):fl x 1=[gG x]:=by
 unfold fl;rw[wrap_small bH aa];simp[List.range_succ]
theorem U5{x:Int}(bH:0<=x)(h:x<65536):fl x 2=[gG (x / 256),gG x]:=by
 unfold fl;rw[wrap_small bH aa];simp[List.range_succ]
theorem U6{x:Int}(bH:0<=x)(h:x<4294967296):fl x 4=[gG (x / 16777216),gG (x / 65536),gG (x / 256),gG x]:=by
 unfold fl;rw[wrap_small bH aa];simp[List.range_succ]
theorem afo{x:Int}(bH:0<=x)(h:x<256):(kY (fl x 1):Int)=x:=by
 rw[U4 bH h];have h1:=vb x;simp only[kY,List.foldl_cons,List.foldl_nil];omega
theorem afp{x:Int}(bH:0<=x)(h:x<65536):(kY (fl x 2):Int)=x:=by
 rw[U5 bH h];have h1:=vb x;have ag:=vb (x / 256);simp only[kY,List.foldl_cons,List.foldl_nil];omega
theorem afq{x:Int}(bH:0<=x)(h:x<4294967296):(kY (fl x 4):Int)=x:=by
 rw[U6 bH h];have h1:=vb x;have ag:=vb (x / 256);have aB:=vb (x / 65536);have bE:=vb (x / 16777216);simp only[kY,List.foldl_cons,List.foldl_nil];omega
theorem A2{n:Int}{b:UInt8}(h:n % 256=(b.toNat:Int)):gG n=b:=by
 apply UInt8.toNat_inj.1;have:=vb n;omega
theorem afr{l:List UInt8}(h:l.length=1):fl (kY l) 1=l:=by
 match l,h with
 | [a],_ =>
  have ax:=a.toNat_lt;have aN:(kY [a]:Int)=a.toNat:=(by simp only[kY,List.foldl_cons,List.foldl_nil];omega);rw[U4 aa aa,aN,A2 (b:=a) aa]
theorem afs{l:List UInt8}(h:l.length=2):fl (kY l) 2=l:=by
 match l,h with
 | [a,b],_ =>
  have ax:=a.toNat_lt;have ab:=b.toNat_lt;have aN:(kY [a,b]:Int)=a.toNat*256+b.toNat:=(by simp only[kY,List.foldl_cons,List.foldl_nil];omega);rw[U5 aa aa,aN,A2 (b:=a) aa,A2 (b:=b) aa]
theorem aft{l:List UInt8}(h:l.length=4):fl (kY l) 4=l:=by
 match l,h with
 | [a,b,c,d],_ =>
  have ax:=a.toNat_lt;have ab:=b.toNat_lt;have al:=c.toNat_lt;have hd:=d.toNat_lt;have aN:(kY [a,b,c,d]:Int)=((a.toNat*256+b.toNat)*256+c.toNat)*256+d.toNat:=(by simp only[kY,List.foldl_cons,List.foldl_nil];omega);rw[U6 aa aa,aN,A2 (b:=a) aa,A2 (b:=b) aa,A2 (b:=c) aa,A2 (b:=d) aa]
def xK(n:Nat):Prop:=n=1\/n=2\/n=4
theorem U7{x:Int}{n:Nat}(aN:xK n)(bH:0<=x)(h:x<256 ^ n):(kY (fl x n):Int)=x:=by
 rcases aN with rfl|rfl|rfl
 . exact afo bH aa
 . exact afp bH aa
 . exact afq bH aa
theorem MQ{l:List UInt8}{n:Nat}(aN:xK n)(h:l.length=n):fl (kY l) n=l:=by
 rcases aN with rfl|rfl|rfl
 . exact afr h
 . exact afs h
 . exact aft h
theorem um{b p r:List UInt8}{a:Nat}(h:b.drop a=p++r):b.drop (a+p.length)=r:=by
 rw[<-List.drop_drop,h];simp
theorem afu{b p r:List UInt8}{a:Nat}(h:b.drop a=p++r)(hp:p≠[]):a+p.length<=b.length:=by
 have h1:=congrArg List.length h;rw[List.length_drop,List.length_append] at h1;have:0<p.length:=List.length_pos_iff.2 hp
 omega
theorem vh{b r:List UInt8}{a n:Nat}{x:Int}{q:Bool}(h:b.drop a=fl x n++r)(aN:xK n)(bH:0<=x)(ah:x<256 ^ n):ea b n ((a:Int),q)=(x,(((a+n:Nat):Int),q)):=by
 have bk:=ie x n
 have h1:a+n<=b.length:=by
  have:=afu h (by intro e;rw[e] at bk;unfold xK at aN;simp at bk;omega)
  rwa[bk] at this
 have bX:mN b (a:Int) (n:Int)=true:=(by unfold mN;unfold xK at aN;exact decide_eq_true ⟨by omega,by omega,by omega,by omega,by omega⟩);rw[vg bX]
 have cN:j' b (a:Int) (n:Int)=x:=by
  unfold j'
  rw[if_pos bX]
  simp only[Int.toNat_natCast]
  rw[h,List.take_left' bk]
  exact U7 aN bH ah
 rw[cN];rfl
def y7(e:cg):Prop:=0<=e.rune/\e.rune<=1114111/\0<=e.to/\e.to<65536
theorem wrap32{x:Int}(bH:0<=x)(h:x<=1114111):IntKind.i32.wrap x=x:=by
 have hm:x % 4294967296=x:=(by omega);have ab:(2:Int) ^ IntKind.i32.bits=4294967296:=rfl;have aT:(2:Int) ^ (IntKind.i32.bits-1)=2147483648:=rfl;unfold IntKind.wrap;simp only[ab,aT,hm];rw[if_neg];simp only[Bool.and_eq_true,decide_eq_true_eq];omega
theorem MR(e:cg):(ma e).length=6:=by unfold ma;simp[ie]
theorem afv{b r:List UInt8}{a:Nat}{e:cg}(h:b.drop a=ma e++r)(he:y7 e):rW b ((a:Int),false)=(e,(((a+6:Nat):Int),false)):=by
 obtain⟨h1,ag,aB,bE⟩:=he;unfold ma at h;rw[List.append_assoc] at h;have bF:=vh (q:=false) h (.inr (.inr rfl)) h1 aa;have cB:=um h;rw[ie] at cB;have dG:=vh (q:=false) cB (.inr (.inl rfl)) aB aa;unfold rW;simp only[bF];rw[show(false || decide (e.rune>1114111))=false from by simp;omega];simp only[dG];rw[wrap32 h1 ag]
theorem U8{b:List UInt8}:∀(es:List cg) (a:Nat) (r:List UInt8),b.drop a=es.flatMap ma++r->(∀e∈es,y7 e)->kt b es.length ((a:Int),false)=(es,(((a+6*es.length:Nat):Int),false))
 | [],a,r,h,_=>by simp[kt]
 | e::es,a,r,h,he=>by
  rw[List.flatMap_cons,List.append_assoc] at h
  have bF:=afv h (he e di)
  have cB:=um h
  rw[MR] at cB
  have dG:=U8 es (a+6) r cB (λe h=>he e (by simp[h]))
  rw[List.length_cons]
  conv=>lhs;unfold kt
  rw[if_neg di,bF]
  simp only[dG]
  rw[show a+6+6*es.length=a+6*(es.length+1) from by omega]
def xL(x:cx):Prop:=x.2.length<65536/\∀e∈x.2,y7 e
def uo(x:cx):Nat:=3+6*x.2.length
theorem U9:∀es:List cg,(es.flatMap ma).length=6*es.length
 | []=>rfl
 | e::es=>by rw[List.flatMap_cons,List.length_append,U9 es,MR,List.length_cons];omega
theorem MS(x:cx):(kF x).length=uo x:=by unfold kF uo;simp only[List.length_append,ie,U9]
theorem afw{b r:List UInt8}{a:Nat}{x:cx}(h:b.drop a=kF x++r)(ah:xL x):mb b ((a:Int),false)=(x,(((a+uo x:Nat):Int),false)):=by
 obtain⟨h1,ag⟩:=ah;unfold kF at h;rw[List.append_assoc,List.append_assoc] at h;have ab:(0:Int)<=(if x.1=true then 1 else 0)/\(if x.1=true then 1 else 0:Int)<=1:=(by split<;>omega);have bF:=vh (q:=false) h (.inl rfl) ab.1 aa;have cB:=um h;rw[ie] at cB;have dG:=vh (q:=false) cB (.inr (.inl rfl)) aa aa;have g':=um cB;rw[ie] at g';have i7:=U8 x.2 _ _ g' ag;unfold mb;simp only[bF];rw[show(false || decide ((if x.1=true then 1 else 0:Int)>1))=false from by rw[Bool.false_or];exact decide_eq_false aa];simp only[dG,Int.toNat_natCast,i7];rw[show a+1+2+6*x.2.length=a+uo x from by unfold uo;omega];have:decide ((if x.1=true then 1 else 0:Int)=1)=x.1:=by cases x.1<;>decide
 rw[this]
def sD(N:List cx):Nat:=(N.map uo).sum
theorem U_{b:List UInt8}:∀(N:List cx) (a:Nat) (r:List UInt8),b.drop a=N.flatMap kF++r->(∀x∈N,xL x)->lh b N.length ((a:Int),false)=(N,(((a+sD N:Nat):Int),false))
 | [],a,r,h,_=>by simp[lh,sD]
 | x::N,a,r,h,ah=>by
  rw[List.flatMap_cons,List.append_assoc] at h
  have bF:=afw h (ah x di)
  have cB:=um h
  rw[MS] at cB
  have dG:=U_ N (a+uo x) r cB (λe h=>ah e (by simp[h]))
  rw[List.length_cons]
  conv=>lhs;unfold lh
  rw[if_neg di,bF]
  simp only[dG]
  rw[show a+uo x+sD N=a+sD (x::N) from by unfold sD;simp only[List.map_cons,List.sum_cons];omega]
theorem U':∀N:List cx,(N.flatMap kF).length=sD N
 | []=>rfl
 | x::N=>by rw[List.flatMap_cons,List.length_append,U' N,MS];unfold sD;simp only[List.map_cons,List.sum_cons]
theorem afx(N:List cx):(hJ N).length=6+sD N:=by
 unfold hJ;simp only[List.length_append,ie,U',List.length_cons,List.length_nil]
theorem afy{N:List cx}(bk:N.length<65536)(hr:∀x∈N,xL x)(hm:lB N≠[]):iv (kZ N)=(lB N,0):=by
 have ab:(kZ N).length=(hJ N).length+4:=(by unfold kZ xF;rw[List.length_append,ie]);have ku:=afx N;have a8:(kZ N).take ((kZ N).length-4)=hJ N:=(by rw[ab];unfold kZ xF;simp);have aT:=CF 0 (hJ N)
 have ag:j' (kZ N) (((kZ N).length:Int)-4) 4=(kE ((kZ N).take ((kZ N).length-4)):Int):=by
  rw[a8]
  have hd:(kZ N).drop (hJ N).length=fl (kE (hJ N)) 4++[]:=by unfold kZ xF;simp
  have:=vh (q:=false) hd (.inr (.inr rfl)) aa (by change (AU 0 (hJ N):Int)<_;omega)
  rw[show((kZ N).length:Int)-4=((hJ N).length:Int) from by omega]
  have bX:mN (kZ N) ((hJ N).length:Int) 4=true:=by unfold mN;exact decide_eq_true ⟨by omega,by omega,by omega,by omega,by omega⟩
  rw[show(4:Nat)=4 from rfl,vg bX] at this
  exact congrArg Prod.fst this
 have aB:¬ ((kZ N).length-4<4\/¬ (kZ N).take 4=[73,78,75,49]):=by
  intro h
  rcases h with h|h
  . omega
  . exact h (by unfold kZ xF hJ;simp)
 have E5:(hJ N).drop 4=fl N.length 2++N.flatMap kF:=(by unfold hJ;simp);have bE:=vh (q:=false) E5 (.inr (.inl rfl)) aa aa;have E6:=um E5;rw[ie] at E6;have c3:=U_ N 6 [] (by rw[E6];simp) hr;have fV:ea ((kZ N).take ((kZ N).length-4)) 2 (4,false)=((N.length:Int),(((6:Nat):Int),false)):=(by rw[a8];exact bE);refine MP (c:=N.length) (a0:=((6:Nat):Int)) (q0:=false) (a:=((6+sD N:Nat):Int)) (q:=false) aa ag aB fV.symm (by rw[a8,Int.toNat_natCast];exact c3) (λh=>?_) hm;rcases h with h|h
 . cases h
 . exact h aa
end Go.ak
namespace Go.ak
open Go.aF
def my:List aj->Nat
 | []=>0
 | t::r=>max (hi t).length (my r)
theorem Va:∀{l:List aj} {t:aj},t∈l->(hi t).length<=my l
 | a::r,t,h=>by
  unfold my
  rcases List.mem_cons.1 h with rfl|h
  . omega
  . have:=Va h;omega
theorem MT:∀{l:List aj},l≠[]->∃t∈l,(hi t).length=my l
 | [a],_=>⟨a,by simp,by unfold my my;omega⟩
 | a::b::r,_=>by
  obtain⟨t,h1,ag⟩:=MT (l:=b::r) di
  have e:my (a::b::r)=max (hi a).length (my (b::r)):=by rw[my]
  rcases Nat.le_total (hi a).length (my (b::r)) with h|h
  . exact⟨t,by simp[List.mem_cons.1 h1],by rw[ag,e];omega⟩
  . exact⟨a,by simp,by rw[e];omega⟩
theorem Vb{l:List aj}{n:Nat}(h:Deep n l):my l<=n:=by
 by_cases bk:l=[]
 . subst bk;exact Nat.zero_le _
 . obtain⟨t,h1,ag⟩:=MT bk;rw[<-ag];exact h t h1
theorem CO{r:List aj}(a':gy r){g:Nat×List aj}(aU:g∈g_ (fI r)):kO g.1/\g.2≠[]/\gy g.2/\∀t∈g.2,eg g.1++t∈r:=by
 have hd:=u9 a';have ok:=xA _ _ (Nat.le_refl _) hd.1 hd.2;have h1:=ok.e9 g aU;refine⟨h1.1,h1.2.1,h1.2.2,λt a8=>AF ?_⟩;rw[<-ok.all];exact List.mem_flatMap.2 ⟨g,aU,List.mem_map.2 ⟨t,a8,rfl⟩⟩
theorem E7{r:List aj}(a':gy r){g:Nat×List aj}(aU:g∈g_ (fI r)):my g.2+1<=my r:=by
 obtain⟨h1,ag,_,bE⟩:=CO a' aU;obtain⟨t,bF,cB⟩:=MT ag;have:=Va (bE t bF);rw[we h1] at this;simp only[List.length_cons] at this;omega
theorem Vc{P:List aj->Prop}{add:c6->List aj->c6×Nat}:∀(gs:List (Nat×List aj)) (s:c6),(∀g∈gs,∀s,(∀y∈s,P y.1)->∀y∈(add s g.2).1,P y.1)->(∀y∈s,P y.1)->∀y∈(lQ add s gs).1,P y.1
 | [],s,_,aT=>aT
 | g::gs,s,h,aT=>by
  show ∀y∈(lQ add (add s g.2).1 gs).1,_
  exact Vc gs _ (λfy tf=>h fy (by simp[tf])) (h g di s aT)
theorem Vd{P:List aj->Prop}(Ve:∀r,P r->∀g∈g_ (fI r),P g.2):∀(f:Nat) (s:c6) (aL:List aj),(∀y∈s,P y.1)->P aL->∀y∈(e3 f s aL).1,P y.1
 | 0,s,aL,aT,_=>aT
 | f+1,s,aL,aT,a'=>by
  unfold e3
  cases ar:s.findIdx? λx=>x.1==aL with
  | some i=>exact aT
  | none =>
   have h1:=Vc (add:=e3 f) (P:=P) (g_ (fI aL)) (s++[(aL,[])]) (λg iO j0 An=>Vd Ve f j0 g.2 An (Ve _ a' g iO)) (λy aD=>by
    rcases List.mem_append.1 aD with aD|aD
    . exact aT y aD
    . simp only[List.mem_singleton] at aD;subst aD;exact a')
   intro y aD
   rcases List.mem_or_eq_of_mem_set aD with aD|rfl
   . exact h1 y aD
   . exact a'
theorem afz{words:List aj}(h:e7 words=0):∀y∈te words,my y.1<=my words:=by
 have aU:=th h;have:=Vd (P:=λr=>gy r/\my r<=my words) (λr a' g iO=>⟨(CO a'.1 iO).2.2.1,by have:=E7 a'.1 iO;omega⟩) 13 [] words di ⟨aU.1,Nat.le_refl _⟩;exact λy aD=>(this y aD).2
def qA(l:List aj):Nat:=(l.map λt=>(hi t).length).sum
theorem afA(a b:List aj):qA (a++b)=qA a+qA b:=by unfold qA;simp
theorem Vf{c:Nat}(al:kO c):∀l:List aj,qA (l.map (eg c++·))=l.length+qA l
 | []=>rfl
 | t::l=>by
  have:=Vf al l
  unfold qA at *
  simp only[List.map_cons,List.sum_cons,List.length_cons] at *
  rw[we al,this]
  simp only[List.length_cons];omega
def CP(gs:List (Nat×List aj)):Nat:=(gs.map λg=>qA g.2+1).sum
theorem Vg:∀(gs:List (Nat×List aj)),(∀g∈gs,kO g.1/\g.2≠[])->CP gs<=qA (gs.flatMap λg=>g.2.map (eg g.1++·))
 | [],_=>by simp[CP]
 | g::gs,h=>by
  have h1:=Vg gs (λfy aU=>h fy (by simp[aU]))
  have ag:=h g di
  have aB:=List.length_pos_iff.2 ag.2
  rw[List.flatMap_cons,afA,Vf ag.1]
  unfold CP at *
  simp only[List.map_cons,List.sum_cons];omega
theorem afB(l:List aj):qA (fI l)<=qA l:=by
 cases l with
 | nil=>exact Nat.le_refl _
 | cons a r=>cases a<;>simp[fI,qA]
theorem Vh{add:c6->List aj->c6×Nat}:∀(gs:List (Nat×List aj)) (s:c6),(∀g∈gs,∀s,(add s g.2).1.length<=s.length+1+qA g.2)->(lQ add s gs).1.length<=s.length+CP gs
 | [],s,_=>by simp[lQ,CP]
 | g::gs,s,h=>by
  have h1:=h g di s
  have ag:=Vh gs (add s g.2).1 (λfy tf=>h fy (by simp[tf]))
  show(lQ add (add s g.2).1 gs).1.length<=_
  unfold CP at ag ⊢
  simp only[List.map_cons,List.sum_cons]
  omega
theorem Vi:∀(f:Nat) (s:c6) (aL:List aj),gy aL->(e3 f s aL).1.length<=s.length+1+qA aL
 | 0,s,aL,_=>by simp[e3];omega
 | f+1,s,aL,aU=>by
  unfold e3
  cases ar:s.findIdx? λx=>x.1==aL with
  | some i=>simp;omega
  | none =>
   simp only[List.length_set]
   have hd:=u9 aU
   have ok:=xA _ _ (Nat.le_refl _) hd.1 hd.2
   have h1:=Vh (add:=e3 f) (g_ (fI aL)) (s++[(aL,[])]) (λg iO j0=>Vi f j0 g.2 (ok.e9 g iO).2.2)
   have ag:=Vg (g_ (fI aL)) (λg iO=>⟨(ok.e9 g iO).1,(ok.e9 g iO).2.1⟩)
   rw[ok.all] at ag
   have aB:=afB aL
   simp only[List.length_append,List.length_cons,List.length_nil] at h1
   omega
theorem afC{l:List aj}{m:Nat}(h:∀x∈l,(hi x).length<=m):qA l<=l.length*m:=by
 induction l with
 | nil=>simp[qA]
 | cons a l cc =>
  have h1:=h a di;have ag:=cc λx ah=>h x (by simp[ah])
  unfold qA at *;rw[List.map_cons,List.sum_cons,List.length_cons,Nat.add_mul];omega
theorem afD{words:List aj}(h:e7 words=0):(h7 words).length<=721:=by
 rw[uh h,va];unfold o_;split
 . simp
 . obtain⟨h1,ag,_⟩:=wg h;have aB:=Vi 13 [] words (th h).1;have bE:=afC (l:=words) (m:=12) λx ah=>(L4 (ag x ah)).2.2
   unfold te;simp only[List.length_nil] at aB;omega
theorem MU{α β:Type}{R:α->β->Prop}{a:List α}{b:List β}(h:c4 R a b):∀y∈b,∃x∈a,R x y:=by
 intro y aD;obtain⟨k,hk⟩:=List.mem_iff_getElem?.1 aD;have aU:=c4.get h;have hN:=(List.getElem?_eq_some_iff.1 hk).1;have ah:a[k]?=some (a[k]'(by rw[aU.1];exact hN)):=(by simp);exact⟨_,List.mem_of_getElem? ah,aU.2 k _ _ ah hk⟩
theorem Vj{g:List Int->cg->Bool×List Int}{Inv:List Int->Prop}:∀(l:List cg) (s:List Int),Inv s->(∀e∈l,∀s,Inv s->(g s e).1=true/\Inv (g s e).2)->(oj g s l).1=true/\Inv (oj g s l).2
 | [],s,h,_=>⟨rfl,h⟩
 | e::l,s,h,aU=>by
  obtain⟨h1,ag⟩:=aU e di s h
  unfold oj
  rw[if_pos h1]
  exact Vj l _ ag λnG he=>aU nG (by simp[he])
section
variable {s:c6}
theorem Iy{n:Nat}{y:List aj×List cg}(h:s[n]?=some y):(fW s)[n]?=some (j5 y.1,y.2):=by simp[fW,h]
theorem afE(me:∀y∈s,o8 s y/\gy y.1/\y.1≠[]):∀(f n:Nat) (d:Int) (st:List Int) (y:List aj×List cg),s[n]?=some y->0<=d->d+my y.1<=12->13<=d+f->st.length=s.length ->
 (∀(m:Nat) (z:List aj×List cg),st[m]?=some 1->s[m]?=some z->my y.1<my z.1) ->
 (ih (fW s) (f+1) n d st).1=true/\∀m:Nat,(ih (fW s) (f+1) n d st).2[m]?=some 1->st[m]?=some 1:=by
 intro f
 induction f with
 | zero=>intro n d st y aN bH h1 ag _ _;omega
 | succ f cc =>
  intro n d st y aN bH h1 ag bk hu;obtain⟨al,aU,dL⟩:=me y (List.mem_of_getElem? aN);have hN:=(List.getElem?_eq_some_iff.1 aN).1;obtain⟨v,cN⟩:∃v,st[n]?=some v:=⟨_,List.getElem?_eq_getElem aa⟩;by_cases kn:v=2
  . rw[E2 (Iy aN) cN kn];exact⟨rfl,λm h=>h⟩
  . have fZ:¬ (v=1\/d>12\/((j5 y.1,y.2).1=false/\(j5 y.1,y.2).2=[])):=by
     rintro(h|h|⟨aB,bE⟩)
     . subst h
       have:=hu n y cN aN
       omega
     . omega
     . apply dL
       simp only at aB bE
       have p6:g_ (fI y.1)=[]:=List.eq_nil_of_length_eq_zero (by rw[(c4.get al).1,bE];rfl)
       have:=HS (x:=y) aU
       rw[aB,p6] at this
       simpa using this
    have key:=Vj (g:=λst e=>ih (fW s) (f+1) e.to.toNat (d+1) st) (Inv:=λIz=>Iz.length=s.length/\∀m:Nat,Iz[m]?=some 1->st[m]?=some 1\/m=n) y.2 (st.set n 1) ⟨by rw[List.length_set];exact bk,λm h=>by
     rw[List.getElem?_set] at h
     split at h
     . right;omega
     . left;exact h⟩ (λe he Iz ⟨HU,Hm⟩=>by
     obtain⟨g,iO,aB,j,es,bE,c3⟩:=MU al e he
     have IA:=E7 aU iO
     have bn:e.to.toNat=j:=by omega
     have:=cc j (d+1) Iz (g.2,es) c3 aa (by simp only;omega) aa HU (λm z hm cS=>by
      rcases Hm m hm with h|h
      . have:=hu m z h cS;simp only;omega
      . subst h
        obtain rfl:y=z:=Option.some.inj (aN.symm.trans cS)
        simp only;omega)
     simp only[bn]
     refine⟨this.1,by rw[Iq];exact HU,λm hm=>Hm m (this.2 m hm)⟩)
    obtain⟨bF,cB,dG⟩:=key;rw[MH (Iy aN) cN kn fZ rfl];simp only;rw[if_pos bF];refine⟨rfl,λm hm=>?_⟩;simp only at hm;rw[List.getElem?_set] at hm;split at hm
    . split at hm
      . simp at hm
      . cases hm
    . rename_i ar5;rcases dG m hm with h|h
      . exact h
      . omega
theorem afF{a:aj}{d:Int}{f:Nat}(MV:∀(n:Nat) (a:aj) (l:List aj) (y:List aj×List cg),s[n]?=some y->d+1+my y.1<=12->l.length+y.1.length<=60->nP (fW s) f n a (d+1) (l,true)=(l++y.1.map (a++·),true)):
 ∀{gs:List (Nat×List aj)} {es:List cg},c4 (λg e=>e.rune=(g.1:Int)/\∃(j:Nat) (es:List cg),e.to=(j:Int)/\s[j]?=some (g.2,es)) gs es->(∀g∈gs,kO g.1/\d+1+my g.2<=12)->∀l:List aj,l.length+(gs.flatMap λg=>g.2.map (eg g.1++·)).length<=60 ->
  es.foldl (λj0 e=>nP (fW s) f e.to.toNat (a++fE e.rune) (d+1) j0) (l,true)=(l++(gs.flatMap λg=>g.2.map (eg g.1++·)).map (a++·),true):=by
 intro gs es h
 induction h with
 | nil=>intro _ l _;simp
 | @cons g e gs es yF a' fP =>
  intro aU l bk;obtain⟨h1,j,rP,ag,aB⟩:=yF;obtain⟨bF,cB⟩:=aU g di;rw[List.flatMap_cons,List.length_append,List.length_map] at bk;rw[List.foldl_cons,show e.to.toNat=j from by omega,h1,yP bF,MV j _ l (g.2,rP) aB cB (by simp only;omega),fP (λfy tf=>aU fy (by simp[tf])) _ (by simp only[List.length_append,List.length_map];omega)];rw[List.flatMap_cons,List.map_append,List.map_map,List.append_assoc];congr 3
  apply List.map_congr_left;intro t _;simp
theorem afG(me:∀y∈s,o8 s y/\gy y.1):∀(f n:Nat) (a:aj) (d:Int) (l:List aj) (y:List aj×List cg),s[n]?=some y->0<=d->d+my y.1<=12->13<=d+f->l.length+y.1.length<=60->nP (fW s) (f+1) n a d (l,true)=(l++y.1.map (a++·),true):=by
 intro f
 induction f with
 | zero=>intro n a d l y aN bH h1 ag _;omega
 | succ f cc =>
  intro n a d l y aN bH h1 ag bk;obtain⟨al,aU⟩:=me y (List.mem_of_getElem? aN);have fY:=HS (x:=y) aU;refine ML (by rintro(h|h|h);cases h;omega;omega) (Iy aN) rfl ?_;simp only;have hlen:=congrArg List.length fY;rw[List.length_append] at hlen;have key:=λCQ tW=>afF (s:=s) (a:=a) (d:=d) (f:=f+1) (λn a l y aN hd bk=>cc n a (d+1) l y aN aa hd aa bk) al (λg iO=>⟨(CO aU iO).1,by have:=E7 aU iO;omega⟩) CQ tW
  cases bC:j5 y.1 with
  | true =>
   rw[bC,if_pos rfl] at fY;rw[bC,if_pos rfl] at hlen;rw[if_pos rfl,key _ (by simp only[List.length_append,List.length_cons,List.length_nil] at hlen ⊢;omega)]
   conv=>rhs;rw[fY]
   simp
  | false =>
   rw[bC,if_neg b5] at fY;rw[bC,if_neg b5] at hlen;rw[if_neg b5,key _ (by simp only[List.length_nil] at hlen ⊢;omega)]
   conv=>rhs;rw[fY]
   simp
end
theorem afH{words:List aj}(h:e7 words=0):CM (h7 words)=some words:=by
 by_cases hw:words=[]
 . subst hw;rw[H4 rfl];have aT:km [(false,[])]=([],true):=(by decide);unfold CM;rw[aT];rw[if_pos ⟨by decide,by decide,by decide,by decide,rfl,by decide,H4 rfl⟩]
 . have jL:=th h;have bX:=Cs jL.2 jL.1 hw;have ft:o_ words=te words:=(by unfold o_;rw[if_neg hw]);have hr:=uh h;rw[ft] at hr;obtain⟨tp,bH⟩:=bX.root;have afI:=Vb jL.2;have dM:=CK h
   have E8:km (h7 words)=(words,true):=by
    have:=afG (s:=te words) (λy aD=>⟨(bX.node y aD).wh,(bX.node y aD).e9⟩) 13 0 [] 0 [] (words,tp) bH aa (by simp only;omega) aa (by have:=(wg h).1;simp only[List.length_nil];omega)
    unfold km
    rw[hr,this]
    have Ci:=(wg h).1
    simp;exact Ci
   unfold CM;rw[E8];refine if_pos ⟨?_,by omega,afD h,?_,rfl,h,rfl⟩
   . rw[Ir];intro x ah e he;rw[hr] at ah;obtain⟨y,aD,rfl⟩:=List.mem_map.1 ah;obtain⟨g,iO,aB,j,es,bE,c3⟩:=MU (bX.node y aD).wh e he;have bn:=(List.getElem?_eq_some_iff.1 c3).1;have IA:=E7 (bX.node y aD).e9 iO;have ar6:=afz h y aD;rw[hr,va];refine⟨?_,by omega⟩;rcases Nat.eq_zero_or_pos j with cS|cS
     . subst cS;have:g.2=words:=congrArg Prod.fst (Option.some.inj (c3.symm.trans bH))
       rw[this] at IA;omega
     . omega
   . unfold sC
     have:=afE (s:=te words) (λy aD=>⟨(bX.node y aD).wh,(bX.node y aD).e9,(bX.node y aD).ne⟩) 13 0 0 (List.replicate (h7 words).length 0) (words,tp) bH aa (by simp only;omega) aa (by rw[List.length_replicate,hr,va]) (λm z hm _=>by
      rw[List.getElem?_replicate] at hm
      split at hm<;>simp at hm)
     rw[Bool.or_eq_true];right;rw[hr] at this ⊢;exact this.1
theorem Vk{words:List aj}(h:e7 words=0):lB (h7 words)=h7 words:=by unfold lB;rw[afH h]
theorem Vl{words:List aj}(h:e7 words=0):∀x∈h7 words,xL x:=by
 have dM:=(CK h).2;intro x ah;refine⟨by have:=UC h x ah;omega,λe he=>?_⟩;have bX:=CE h;rw[uh h] at ah dM;rw[va] at dM;obtain⟨y,aD,rfl⟩:=List.mem_map.1 ah;obtain⟨g,iO,aB,j,es,bE,c3⟩:=MU (bX.node y aD).1 e he;have bn:=(List.getElem?_eq_some_iff.1 c3).1;have AS:=(CO (bX.node y aD).2.1 iO).1;unfold kO at AS;exact⟨by omega,by omega,by omega,by omega⟩
theorem IB{words:List aj}(h:e7 words=0):iv (k0 words)=(h7 words,0):=by
 rw[<-CL h,afy (by have:=(CK h).2;omega) (Vl h) (by rw[Vk h];exact Ii h),Vk h]
end Go.ak
