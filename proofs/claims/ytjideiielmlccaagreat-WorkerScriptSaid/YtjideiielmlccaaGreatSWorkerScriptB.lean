/-
  What the law WorkerScript needs, part 2 of 7: theory, and walks through the code. Names are said short.
-/
import Derived.Test.YtjideiielmlccaaGreatSWorkerScriptA
set_option linter.unusedVariables false
set_option linter.unusedSimpArgs false
set_option maxRecDepth 20000
set_option maxHeartbeats 8000000
namespace Go.ak
open Go.aG
def rH(s:aj):Prop:=(255:UInt8)∉s
theorem wg{n:Nat}(h:n % 256≠255):hS n≠255:=λe=>by
 have:=congrArg UInt8.toNat e
 rw[xq] at this
 exact h this
theorem acT{c:Nat}(h:kN c):rH (en c):=by
 obtain⟨h1,ah,aB⟩:=h;unfold rH en;repeat' split
 all_goals simp only[List.mem_cons,List.not_mem_nil,or_false,not_or]
 . exact λe=>wg aa e.symm
 . exact⟨λe=>wg aa e.symm,λe=>wg aa e.symm⟩
 . exact⟨λe=>wg aa e.symm,λe=>wg aa e.symm,λe=>wg aa e.symm⟩
 . exact⟨λe=>wg aa e.symm,λe=>wg aa e.symm,λe=>wg aa e.symm,λe=>wg aa e.symm⟩
theorem acU:∀s,ix s->rH s:=
 LU (by simp[rH]) λc t al _ cc=>by
  have:=acT al
  unfold rH at *
  rw[List.mem_append,not_or];exact⟨this,cc⟩
def p2(l:List aj):aj:=Lib.join l [255]
theorem L9(x:aj)(r:List aj):p2 (x::r)=x++Lib.joinTail [255] r:=Lib.join_cons x r [255]
theorem tail_cons(x:aj)(r:List aj):Lib.joinTail [255] (x::r)=255::(x++Lib.joinTail [255] r):=by simp[Lib.joinTail]
theorem tail_nil:Lib.joinTail [255] []=[]:=rfl
theorem L_:∀(x y u v:aj),rH x->rH y->(u=[]\/∃Ec,u=255::Ec)->(v=[]\/∃gT,v=255::gT)->x++u=y++v->x=y/\u=v
 | [],[],u,v,_,_,_,_,h=>⟨rfl,h⟩
 | [],b::y,u,v,_,aE,hu,_,h=>by
  simp only[List.nil_append,List.cons_append] at h
  rcases hu with rfl|⟨Ec,rfl⟩
  . cases h
  . simp only[List.cons.injEq] at h
    exact absurd (by simp[h.1]) aE
 | a::x,[],u,v,ag,_,_,cK,h=>by
  simp only[List.nil_append,List.cons_append] at h
  rcases cK with rfl|⟨gT,rfl⟩
  . cases h
  . simp only[List.cons.injEq] at h
    exact absurd (by simp[h.1]) ag
 | a::x,b::y,u,v,ag,aE,hu,cK,h=>by
  simp only[List.cons_append,List.cons.injEq] at h
  have:=L_ x y u v (λe=>ag (by simp[e])) (λe=>aE (by simp[e])) hu cK h.2
  exact⟨by rw[h.1,this.1],this.2⟩
theorem HL(r:List aj):Lib.joinTail [255] r=[]\/∃u,Lib.joinTail [255] r=255::u:=by
 cases r with
 | nil=>exact .inl rfl
 | cons x r=>exact .inr ⟨_,tail_cons x r⟩
theorem S9:∀(r s:List aj),(∀x∈r,rH x)->(∀x∈s,rH x)->Lib.joinTail [255] r=Lib.joinTail [255] s->r=s
 | [],[],_,_,_=>rfl
 | [],y::s,_,_,h=>by rw[tail_nil,tail_cons] at h;cases h
 | x::r,[],_,_,h=>by rw[tail_nil,tail_cons] at h;cases h
 | x::r,y::s,a',aT,h=>by
  rw[tail_cons,tail_cons] at h
  simp only[List.cons.injEq,true_and] at h
  have:=L_ x y _ _ (a' x dh) (aT y dh) (HL r) (HL s) h
  rw[this.1,S9 r s (λx ag=>a' x (by simp[ag])) (λx ag=>aT x (by simp[ag])) this.2]
theorem acV{l m:List aj}(bl:∀x∈l,rH x)(hm:∀x∈m,rH x)(h1:l≠[])(ah:m≠[])(h:p2 l=p2 m):l=m:=by
 cases l with
 | nil=>exact absurd rfl h1
 | cons x r =>
  cases m with
  | nil=>exact absurd rfl ah
  | cons y s =>
   rw[L9,L9] at h;have:=L_ x y _ _ (bl x dh) (hm y dh) (HL r) (HL s) h;rw[this.1,S9 r s (λx ag=>bl x (by simp[ag])) (λx ag=>hm x (by simp[ag])) this.2]
theorem gv.ED{l:List aj}(h:gv l):∀x∈l,rH x:=λx ag=>acU x (h.oY x ag)
def jh(l:List aj):Nat:=(l.map List.length).sum
theorem acW(l:List aj):(p2 l).length<=jh l+l.length:=by
 cases l with
 | nil=>simp[p2,Lib.join,jh]
 | cons x r =>
  rw[L9]
  have:∀r:List aj,(Lib.joinTail [255] r).length<=jh r+r.length:=by
   intro r
   induction r with
   | nil=>simp[tail_nil]
   | cons y r cc=>rw[tail_cons];simp only[jh,List.map_cons,List.sum_cons,List.length_cons,List.length_append] at *;omega
  have:=this r;simp only[jh,List.map_cons,List.sum_cons,List.length_cons,List.length_append] at *;omega
def l6(s:c9):List (aj×Int):=s.mapIdx λi x=>(p2 x.1,(i:Int))
theorem acX(s:c9)(x:List aj×List cd):l6 (s++[x])=l6 s++[(p2 x.1,(s.length:Int))]:=by
 unfold l6;rw[List.mapIdx_concat]
theorem acY{s t:c9}(h:names s=names t):l6 s=l6 t:=by
 unfold l6;have bl:s.length=t.length:=(by simpa[names] using congrArg List.length h);refine List.ext_getElem (by simp[bl]) λi h1 ah=>?_
 simp only[List.length_mapIdx] at h1 ah;simp only[List.getElem_mapIdx,Prod.mk.injEq,and_true];have:(names s)[i]'(by simpa[names] using h1)=(names t)[i]'(by simpa[names] using ah):=by simp only[h]
 simp only[names,List.getElem_map] at this;rw[this]
def wh(s:c9):Prop:=∀x∈s,x.1≠[]/\∀t∈x.1,rH t
theorem S_{r:List aj}(a':∀t∈r,rH t)(dL:r≠[]):∀(s:c9),wh s->gw (l6 s) (p2 r)=(s.findIdx? λx=>x.1==r).map λi:Nat=>(i:Int):=by
 intro s aT
 have key:∀(s:c9) (k:Nat),wh s->gw (s.mapIdx λi x=>(p2 x.1,((i+k:Nat):Int))) (p2 r)=(s.findIdx? λx=>x.1==r).map λi:Nat=>((i+k:Nat):Int):=by
  intro s
  induction s with
  | nil=>intro k _;rfl
  | cons x s cc =>
   intro k h
   rw[List.mapIdx_cons,List.findIdx?_cons]
   by_cases ag:x.1=r
   . simp[gw,ag]
   . have bo:p2 x.1≠p2 r:=λe=>ag (acV (h x dh).2 a' (h x dh).1 dL e)
     have:=cc (k+1) (λy aE=>h y (by simp[aE]))
     unfold gw at this ⊢
     rw[List.find?_cons]
     simp only[decide_eq_false bo]
     have fU:(λ(i:Nat) (x:List aj×List cd)=>(p2 x.1,((i+1+k:Nat):Int)))=λ(i:Nat) (x:List aj×List cd)=>(p2 x.1,((i+(k+1):Nat):Int)):=by
      funext i x;congr 2;omega
     rw[fU,this]
     have acZ:(x.1==r)=false:=by simp[ag]
     simp only[acZ,Bool.false_eq_true,if_false,Option.map_map]
     cases s.findIdx? λx=>x.1==r with
     | none=>rfl
     | some i=>simp only[Option.map_some,Function.comp_apply,Option.some.injEq];omega
 exact key s 0 aT
def jX(r:List aj):Bool:=decide (r.head?=some [])
def L'(es:List cd)(r:Int):Option Int:=(es.find? λe=>e.rune==r).map cd.to
def fq{b9:Type}(f:b9->aj->b9×Bool):b9->List aj->b9×Bool
 | s,[]=>(s,true)
 | s,x::r=>if (f s x).2=true then fq f (f s x).1 r else((f s x).1,false)
theorem Ma{b9:Type}(f:b9->aj->b9×Bool):∀(a b:List aj) (s:b9),fq f s (a++b)=if (fq f s a).2=true then fq f (fq f s a).1 b else fq f s a
 | [],b,s=>by simp[fq]
 | x::a,b,s=>by
  simp only[List.cons_append,fq]
  split
  . rw[Ma f a b]
  . simp
theorem HM{x:List aj×List cd}(h:gv x.1):x.1=(if jX x.1=true then[[]] else[])++(ha (fG x.1)).flatMap λg=>g.2.map (en g.1++·):=by
 have hd:=u2 h;have ok:=xu _ _ (Nat.le_refl _) hd.1 hd.2;rw[ok.all];unfold jX
 cases ag:x.1 with
 | nil=>simp[fG]
 | cons a r =>
  cases a with
  | nil=>simp[fG]
  | cons y a=>simp[fG]
theorem nc.step{s:aj}{p:Nat}{l:List Int}(h:nc s p l)(he:s.drop p≠[])(hd:((dec (s.drop p)).1:Int)≠65533):nc s (p+(dec (s.drop p)).2) (l++[((dec (s.drop p)).1:Int)]):=by
 obtain⟨pre,h1,ah,aB⟩:=h.ex;refine⟨⟨_,h1.next he,by rw[ah,List.map_append];rfl,?_⟩⟩;simp only[List.mem_append,List.mem_singleton,not_or];exact⟨aB,λe=>hd aa⟩
theorem nc.v7{s:aj}{p:Nat}{l:List Int}(h:nc s p l)(he:s.drop p≠[])(hd:((dec (s.drop p)).1:Int)=65533):false=jW s:=by
 obtain⟨pre,h1,ah,aB⟩:=h.ex;have:=h1.mem he;have e:(dec (s.drop p)).1=65533:=(by omega);rw[e] at this;unfold jW;simp[this]
theorem nc.done{s:aj}{p:Nat}{l:List Int}(h:nc s p l)(he:s.drop p=[]):l=dZ s/\true=jW s:=by
 obtain⟨pre,h1,ah,aB⟩:=h.ex;have:=h1.done he;refine⟨by rw[ah,dZ,this],?_⟩;unfold jW;rw[this];simp[aB]
theorem nc.pos{s:aj}{p:Nat}{l:List Int}(h:nc s p l):p<=s.length:=by
 obtain⟨pre,h1,_⟩:=h.ex;exact h1.le
theorem Mb(s:aj):(jH s).length<=s.length:=by
 unfold jH;split
 . unfold dZ;rw[List.length_map];exact RZ s
 . simp
def xv(s:aj)(p:Nat)(hd:Int):Prop:=(p=0/\hd=0)\/(0<p/\p=l3 s/\hd=(gf s:Int))
theorem xv.next{s:aj}{p:Nat}{hd:Int}(h:xv s p hd)(he:s.drop p≠[])(bK:p=0):xv s (p+(dec (s.drop p)).2) ((dec (s.drop p)).1:Int):=by
 subst bK;simp only[List.drop_zero,Nat.zero_add] at he ⊢;have:=yz s he;exact .inr ⟨by omega,rfl,rfl⟩
theorem xv.ret{s:aj}{p:Nat}{hd:Int}(h:xv s p hd)(bK:0<p):hd=(gf s:Int)/\(p:Int)=((l3 s:Nat):Int):=by
 rcases h with h|h
 . omega
 . exact⟨h.2.2,by rw[h.2.1]⟩
theorem xv.fin{s:aj}{p:Nat}{hd:Int}(h:xv s p hd)(dL:s≠[])(he:s.drop p=[]):hd=(gf s:Int)/\(s.length:Int)=((l3 s:Nat):Int):=by
 rcases h with ⟨rfl,_⟩|⟨h1,ah,aB⟩
 . exact absurd (by simpa using he) dL
 . refine⟨aB,?_⟩;have bl:=B_ s dL;have:=congrArg List.length he;simp only[List.length_drop,List.length_nil] at this;unfold l3 at *;omega
theorem HN(s:aj):s≠[]->1<=l3 s/\l3 s<=s.length:=λh=>⟨yz s h,B_ s h⟩
theorem S'(s:aj):gf s<=1114111:=RS s
theorem Ta{s p:aj}{b:Bool}(bl:(s.length:Int)>=(p.length:Int))(ab:b=(s.take p.length==p)):b=p.isPrefixOf s:=by
 rw[ab,Bool.eq_iff_iff,List.isPrefixOf_iff_prefix,beq_iff_eq];constructor
 . intro h;rw[<-h];exact List.take_prefix _ _
 . rintro⟨t,rfl⟩;simp
theorem Tb{s p:aj}(bl:¬ (s.length:Int)>=(p.length:Int)):false=p.isPrefixOf s:=by
 cases h:p.isPrefixOf s with
 | false=>rfl
 | true =>
  rw[List.isPrefixOf_iff_prefix] at h;have:=h.length_le;omega
structure Tc(es:List cd)(r:Int)(k:Nat):Prop where
 no:∀e∈es.take k,e.rune≠r
theorem Tc.none{es:List cd}{r:Int}{k:Nat}(h:Tc es r k)(hk:es.length<=k):(0:Int)=(L' es r).getD 0/\false=(L' es r).isSome:=by
 have aR:=h.no;rw[List.take_of_length_le hk] at aR
 have:es.find? (λe=>e.rune==r)=Option.none:=by
  rw[List.find?_eq_none]
  intro e he;simp[aR e he]
 unfold L';rw[this];exact⟨rfl,rfl⟩
end Go.ak
set_option linter.unusedSectionVars false
namespace Go.aG
open Go
theorem bA.Mc{P:Program}{E:Env}{C:World->Prop}{d:Option Tmp}{ty:TypeId}{pos:String}{af:Array Edge}{gd:Option (Nat×Bool)}{xt yt e:TypeId}{x y:Operand}{a:Option Addr}{n c:Nat}(hu:P.underlying xt=some (.slice e))(ag:aO E x=some (.slice a n c))(aE:aO E y=some (.slice none 0 0)):
 bA P ⟨d,.binOp .eql xt x y yt,ty,pos,af,gd⟩ E C (.bool a.isNone):=λs ay w _=>by
 have h:(Op.equal xt (.slice a n c) (.slice none 0 0)).run P w=.ok a.isNone w:=by
  have key:∀k,(Op.equalIn (k+1) xt (.slice a n c) (.slice none 0 0)).run P w=.ok a.isNone w:=λk=>by
   cases a<;>simp[Op.equalIn,run_underlying hu]
  exact key 9999
 have aV:(eqGuard .eql xt x y (.slice a n c) (.slice none 0 0)).run P w=.ok () w:=by
  unfold eqGuard;split<;>simp
 simp[execOp,ay.aO ag,ay.aO aE,aV,Go.binOp,h]
theorem aq.isNil{α:Type}{enc:α->List Value}{w:World}{F:Nat->Prop}{v:Value}{l:List α}(h:aq enc w F v l):∃a c,v=.slice a l.length c/\(a.isNone=true->l=[]):=by
 obtain⟨a,c,h1,ah,aB,bH⟩:=h;refine⟨a,c,h1,λaR=>?_⟩;rcases bH with bH|⟨b,off,c_,_⟩
 . exact bH
 . subst c_;cases aR
structure c' where
 fin:Bool
 e:cL
def fx(x:c'):List Value:=[.bool x.fin,x.e.val]
theorem nE(x:c'):(fx x).length=2:=rfl
theorem EE(x:c'):(fx x).all (·.oneCell')=true:=rfl
abbrev cy:=Bool×List ak.cd
def jY(w:World)(F:Nat->Prop)(bn:List c')(N:List cy):Prop:=c3 (λr n=>r.fin=n.1/\aq ak.e2 w F r.e.val n.2) bn N
theorem jY.keep{M:Nat->Prop}{w ao:World}{F:Nat->Prop}{bn:List c'}{N:List cy}(h:jY w F bn N)(hm:Mod M w ao)(bs:∀b,F b->¬ M b):jY ao F bn N:=
 c3.imp (λr n ⟨h1,ah⟩=>⟨h1,ah.keep hm bs⟩) h
theorem jY.ext{w ao:World}{F:Nat->Prop}{bn:List c'}{N:List cy}(h:jY w F bn N)(hm:Ext w ao):jY ao F bn N:=h.keep hm (λ_ _ x=>x)
theorem jY.mono{w:World}{F F':Nat->Prop}{bn:List c'}{N:List cy}(h:jY w F bn N)(bs:∀b,F b->F' b):jY w F' bn N:=
 c3.imp (λr n ⟨h1,ah⟩=>⟨h1,ah.mono bs⟩) h
theorem jY.at{w:World}{F:Nat->Prop}{bn:List c'}{N:List cy}(h:jY w F bn N){i:Nat}{r:c'}(a':bn[i]?=some r):∃n,N[i]?=some n/\r.fin=n.1/\aq ak.e2 w F r.e.val n.2:=by
 have aV:=h.get;have hP:=(List.getElem?_eq_some_iff.1 a').1;have ag:N[i]?=some (N[i]'(by rw[<-aV.1];exact hP)):=(by simp);exact⟨_,ag,aV.2 i _ _ a' ag⟩
def hy(gt:TypeId)(w:World)(c7 ar:Nat)(v:Value)(N:List cy):Prop:=
 (v=.pointer none/\N=[])\/∃b gH bn,v=ptr b 0/\N≠[]/\kf w c7 ar b [gH]/\aq fx w (dq c7 ar) gH bn/\jY w (dq c7 ar) bn N
theorem hy.ext{gt:TypeId}{w ao:World}{c7 ar:Nat}{v:Value}{N:List cy}(h:hy gt w c7 ar v N)(hm:Ext w ao):hy gt ao c7 ar v N:=by
 rcases h with h|⟨b,gH,bn,h1,ah,aB,bH,c_⟩
 . exact .inl h
 . exact .inr ⟨b,gH,bn,h1,ah,aB.ext hm,bH.ext hm,c_.ext hm⟩
theorem hy.bF{gt:TypeId}{w ao:World}{c7 ar g:Nat}{v:Value}{N:List cy}(h:hy gt w c7 ar v N)(hm:Mod (b3 g) w ao)(aV:g<=c7\/ar<g):hy gt ao c7 ar v N:=by
 rcases h with h|⟨b,gH,bn,h1,ah,aB,bH,c_⟩
 . exact .inl h
 . exact .inr ⟨b,gH,bn,h1,ah,aB.bF hm aV,bH.bF hm aV,c_.keep hm λb ab ag=>by unfold dq b3 at *;omega⟩
def fV(s:ak.c9):List cy:=s.map λx=>(ak.jX x.1,x.2)
def nodeAt(N:List cy)(n:Int):cy:=if 0<=n then N[n.toNat]?.getD (false,[]) else(false,[])
theorem EF{N:List cy}{n:Int}(h:n<0\/(N.length:Int)<=n):nodeAt N n=(false,[]):=by
 unfold nodeAt;split
 . have:N[n.toNat]?=none:=List.getElem?_eq_none aa
   rw[this];rfl
 . rfl
theorem Md{N:List cy}{n:Int}{x:cy}(h:0<=n)(ag:N[n.toNat]?=some x):nodeAt N n=x:=by
 unfold nodeAt;rw[if_pos h,ag];rfl
theorem jY.bF{w ao:World}{c7 ar g:Nat}{bn:List c'}{N:List cy}(h:jY w (dq c7 ar) bn N)(hm:Mod (b3 g) w ao)(aV:g<=c7\/ar<g):jY ao (dq c7 ar) bn N:=h.keep hm λb ab ag=>by unfold dq b3 at *;omega
theorem hy.pos{gt:TypeId}{w:World}{c7 ar:Nat}{v:Value}{N:List cy}(h:hy gt w c7 ar v N)(aR:0<N.length):∃b gH bn,v=ptr b 0/\N≠[]/\kf w c7 ar b [gH]/\aq fx w (dq c7 ar) gH bn/\jY w (dq c7 ar) bn N:=by
 rcases h with ⟨_,h⟩|h
 . subst h;simp at aR
 . exact h
theorem Cr{N:List cy}(h:∀x∈N,x.2.length<=1000000)(n:Int):(nodeAt N n).2.length<=1000000:=by
 unfold nodeAt;split
 . cases ag:N[n.toNat]? with
   | none=>simp
   | some x=>exact h x (List.mem_of_getElem? ag)
 . simp
structure Me(P:Program){b9:Type}(kO:FuncId)(first cap:List Value)(B:Nat)(Inv:b9->(Nat->Prop)->World->Prop)(ok:b9->aj->Prop)(f:b9->aj->b9×Bool):Prop where
 cl:b8 P kO=true
 ext:∀s F w ao,Inv s F w->Ext w ao->Inv s F ao
 EG:∀s F w,Inv s F w->∀b,F b->B<=b/\b<w.heap.size
 call:∀s F w x,Inv s F w->ok s x->Calls P kO (first++[aD x]++cap).toArray w (an λaC ao=>aC=.bool (f s x).2/\Mod F w ao/\∃F',Inv (f s x).1 F' ao/\∀b,F' b->F b\/w.heap.size<=b)
def xw(F:Nat->Prop)(B:Nat):Prop:=∀b,F b->B<=b
theorem xw.of{P:Program}{b9:Type}{kO:FuncId}{first cap:List Value}{B:Nat}{Inv:b9->(Nat->Prop)->World->Prop}{ok:b9->aj->Prop}{f:b9->aj->b9×Bool}(aE:Me P kO first cap B Inv ok f){s:b9}{F:Nat->Prop}{w:World}(h:Inv s F w):xw F B:=λb ab=>(aE.EG s F w h b ab).1
theorem aq.tW{α:Type}{enc:α->List Value}{w ao:World}{c7 ar B:Nat}{F:Nat->Prop}{v:Value}{l:List α}(h:aq enc w (dq c7 ar) v l)(hm:Mod F w ao)(bs:xw F B)(aV:ar<=B):aq enc ao (dq c7 ar) v l:=
 h.keep hm λb ab ag=>by have:=bs b ag;unfold dq at ab;omega
theorem kf.tW{w ao:World}{c7 ar b B:Nat}{F:Nat->Prop}{cs:List Value}(h:kf w c7 ar b cs)(hm:Mod F w ao)(bs:xw F B)(aV:ar<=B):kf ao c7 ar b cs:=⟨h.1,h.2.1,h.2.2.keep hm λag=>by have:=h.2.1;have:=bs b ag;omega⟩
theorem jY.tW{w ao:World}{c7 ar B:Nat}{F:Nat->Prop}{bn:List c'}{N:List cy}(h:jY w (dq c7 ar) bn N)(hm:Mod F w ao)(bs:xw F B)(aV:ar<=B):jY ao (dq c7 ar) bn N:=h.keep hm λb ab ag=>by have:=bs b ag;unfold dq at ab;omega
theorem hy.tW{gt:TypeId}{w ao:World}{c7 ar B:Nat}{F:Nat->Prop}{v:Value}{N:List cy}(h:hy gt w c7 ar v N)(hm:Mod F w ao)(bs:xw F B)(aV:ar<=B):hy gt ao c7 ar v N:=by
 rcases h with h|⟨b,gH,bn,h1,ah,aB,bH,c_⟩
 . exact .inl h
 . exact .inr ⟨b,gH,bn,h1,ah,aB.tW hm bs aV,bH.tW hm bs aV,c_.tW hm bs aV⟩
theorem AB.gM{F:Nat->Prop}{g:Nat}{w0 w ao:World}(h:Mod F w0 w)(k:Mod (b3 g) w ao)(aV:g=0\/w0.heap.size<g):Mod F w0 ao:=h.then k (λi ar bl=>by unfold b3 at ar;omega)
theorem AB.Mf{F F':Nat->Prop}{w0 w ao:World}(h:Mod F w0 w)(k:Mod F' w ao)(bs:∀b,F' b->F b\/w0.heap.size<=b):Mod F w0 ao:=h.then k (λi ar bl=>(bs i ar).resolve_right aa)
def l7{b9:Type}(ok:b9->aj->Prop)(f:b9->aj->b9×Bool):b9->List aj->Prop
 | _,[]=>True
 | s,x::r=>ok s x/\((f s x).2=true->l7 ok f (f s x).1 r)
theorem l7.app{b9:Type}{ok:b9->aj->Prop}{f:b9->aj->b9×Bool}:∀{a b:List aj} {s:b9},l7 ok f s (a++b)->l7 ok f s a/\((ak.fq f s a).2=true->l7 ok f (ak.fq f s a).1 b)
 | [],b,s,h=>⟨trivial,λ_=>h⟩
 | x::a,b,s,h=>by
  have h1:ok s x/\((f s x).2=true->l7 ok f (f s x).1 (a++b)):=h
  constructor
  . exact⟨h1.1,λag=>(l7.app (h1.2 ag)).1⟩
  . intro he
    unfold ak.fq at he ⊢
    split at he
    . rename_i ag
      rw[if_pos ag]
      exact(l7.app (h1.2 ag)).2 he
    . cases he
open ak in
def s9(ahead:aj)(r:List aj)(k:Nat):List aj:=((ha (fG r)).drop k).flatMap λg=>g.2.map λt=>ahead++(en g.1++t)
open ak in
theorem Td{ahead:aj}{r:List aj}(h:gv r):r.map (ahead++·)=(if jX r=true then[ahead] else[])++s9 ahead r 0:=by
 have ay:=HM (x:=(r,[])) h;simp only at ay;unfold s9
 conv=>lhs;rw[ay]
 rw[List.map_append,List.drop_zero,List.map_flatMap];congr 1
 . split<;>simp
 . simp[List.map_map,Function.comp_def]
open ak in
theorem sk{ahead:aj}{r:List aj}{k:Nat}{g:Nat×List aj}(aV:(ha (fG r))[k]?=some g):s9 ahead r k=g.2.map ((ahead++en g.1)++·)++s9 ahead r (k+1):=by
 obtain⟨hk,rfl⟩:=List.getElem?_eq_some_iff.1 aV;unfold s9;rw[List.drop_eq_getElem_cons hk,List.flatMap_cons];congr 1
 simp
open ak in
theorem wi{ahead:aj}{r:List aj}{k:Nat}(h:(ha (fG r)).length<=k):s9 ahead r k=[]:=by
 unfold s9;rw[List.drop_of_length_le h];rfl
open ak in
theorem wj{b9:Type}{f:b9->aj->b9×Bool}{dG ew:b9}{all rest a b:List aj}(h:fq f dG all=fq f ew rest)(a':rest=a++b)(ab:(fq f ew a).2=false):fq f dG all=fq f ew a:=by
 rw[h,a',Ma,if_neg (by rw[ab];simp)]
open ak in
theorem Te{b9:Type}{f:b9->aj->b9×Bool}{dG ew:b9}{all rest a b:List aj}(h:fq f dG all=fq f ew rest)(a':rest=a++b)(ab:(fq f ew a).2=true):fq f dG all=fq f (fq f ew a).1 b:=by
 rw[h,a',Ma,if_pos ab]
open ak in
theorem Mg{b9:Type}{f:b9->aj->b9×Bool}{s:b9}{a:aj}{r:List aj}(h:(f s a).2=true):fq f s ([a]++r)=fq f (f s a).1 r:=by
 simp[fq,h]
open ak in
theorem u4{b9:Type}{f:b9->aj->b9×Bool}{s:b9}{a:aj}{r:List aj}(h:(f s a).2=false):fq f s ([a]++r)=((f s a).1,false):=by
 simp[fq,h]
open ak in
open ak in
theorem AD{s:c9}{x:List aj×List cd}(al:oZ s x)(jI:gv x.1){k:Nat}{e:cd}(he:x.2[k]?=some e):∃(g:Nat×List aj) (j:Nat) (es:List cd),(ha (fG x.1))[k]?=some g/\e.rune=(g.1:Int)/\e.to=(j:Int)/\s[j]?=some (g.2,es)/\kN g.1/\g.2≠[]:=by
 have aV:=c3.get al;have hP:=(List.getElem?_eq_some_iff.1 he).1;have ag:(ha (fG x.1))[k]?=some ((ha (fG x.1))[k]'(by rw[aV.1];exact hP)):=(by simp);obtain⟨h1,j,es,ah,aB⟩:=aV.2 k _ _ ag he;have hd:=u2 jI;have ok:=xu _ _ (Nat.le_refl _) hd.1 hd.2;have bW:=ok.fQ _ (List.mem_of_getElem? ag);exact⟨_,j,es,ag,h1,ah,aB,bW.1,bW.2.1⟩
open ak in
theorem Cs{l:List aj}(aV:gv l){d k:Nat}{g:Nat×List aj}(h:Deep d l)(hk:(ha (fG l))[k]?=some g):∃e,d=e+1/\Deep e g.2:=by
 have iM:=List.mem_of_getElem? hk
 cases d with
 | zero =>
  exfalso;have hd:=u2 aV;have ok:=xu _ _ (Nat.le_refl _) hd.1 hd.2
  obtain⟨t,a_⟩:∃t,t∈g.2:=by
   cases eJ:g.2 with
   | nil=>exact absurd eJ (ok.fQ g iM).2.1
   | cons t _=>exact⟨t,by simp⟩
  have hm:en g.1++t∈fG l:=by
   rw[<-ok.all]
   exact List.mem_flatMap.2 ⟨g,iM,List.mem_map.2 ⟨t,a_,rfl⟩⟩
  have:=h _ (Au hm);rw[wb (ok.fQ g iM).1] at this;simp at this
 | succ e=>exact⟨e,rfl,SQ aV h g iM⟩
open ak in
theorem AE{s:c9}{n:Nat}{x:List aj×List cd}(h:s[n]?=some x):nodeAt (fV s) (n:Int)=(jX x.1,x.2):=by
 refine Md aa ?_;simp[fV,h]
theorem u5(s:ak.c9):(fV s).length=s.length:=by simp[fV]
theorem xx(c:Nat):(ak.en c).length<=4:=by
 unfold ak.en;repeat' split
 all_goals simp
structure tX(N:List cy)(s:ak.c9)(words:List aj):Prop where
 nodes:N=fV s
 root:∃es,nodeAt N 0=(ak.jX words,es)/\ak.oZ s (words,es)
 fQ:ak.gv words
 deep:ak.Deep 12 words
 node:∀y∈s,ak.oZ s y/\ak.gv y.1/\ak.Deep 12 y.1
 size:s.length<=1000000
 Tf:∀y∈s,y.2.length<=1000000
theorem tX.of{s:ak.c9}{words:List aj}(h:ak.SX s words)(aT:s.length<=1000000)(Li:∀y∈s,y.2.length<=1000000):tX (fV s) s words:=by
 obtain⟨es,he⟩:=h.root;have aR:=h.node _ (List.mem_of_getElem? he);exact⟨rfl,⟨es,AE he,aR.we⟩,aR.fQ,aR.deep,λy aE=>⟨(h.node y aE).we,(h.node y aE).fQ,(h.node y aE).deep⟩,aT,Li⟩
theorem tX.empty:tX [(false,[])] [([],[])] []:=⟨rfl,⟨[],rfl,.nil⟩,⟨List.Pairwise.nil,by simp⟩,by simp[ak.Deep],by
 intro y aE
 simp only[List.mem_singleton] at aE
 subst aE
 exact⟨.nil,⟨List.Pairwise.nil,by simp⟩,by simp[ak.Deep]⟩,by simp,by simp⟩
def wk(rI e:TypeId)(e7 B:Nat)(l:List aj)(F:Nat->Prop)(w:World):Prop:=
 ∃v g,ds w e7 [v] rI/\Acc cx e 1 w g v l/\e7+1≠g/\B<=e7/\(g=0\/B<g)/\∀b,F b↔b=e7\/b+1=g
theorem wk.ext{rI e:TypeId}{e7 B:Nat}{l:List aj}{F:Nat->Prop}{w ao:World}(h:wk rI e e7 B l F w)(hm:Ext w ao):wk rI e e7 B l F ao:=by
 obtain⟨v,g,h1,ah,aB⟩:=h;exact⟨v,g,h1.ext hm,ah.ext hm,aB⟩
theorem wk.EG{rI e:TypeId}{e7 B:Nat}{l:List aj}{F:Nat->Prop}{w:World}(h:wk rI e e7 B l F w):∀b,F b->B<=b/\b<w.heap.size:=by
 obtain⟨v,g,h1,ah,aB,bH,c_,e1⟩:=h;intro b ab;have bl:=h1.lt;have aV:=ah.lt;rcases(e1 b).1 ab with e|e
 . omega
 . omega
theorem wk.go{rI e:TypeId}{e7 B:Nat}{jU:List aj}{F:Nat->Prop}{w ao:World}{gT:Value}{g fz:Nat}(e1:∀b,F b↔b=e7\/b+1=g)(fY:B<=e7)(c_:g=0\/B<g)(dL:e7+1≠g)(ab:e7<w.heap.size)(bt:ds ao e7 [gT] rI)(cD:Acc cx e 1 ao fz gT jU)(dK:fz=g\/w.heap.size<fz):
 ∃F',wk rI e e7 B jU F' ao/\∀b,F' b->F b\/w.heap.size<=b:=
 ⟨λb=>b=e7\/b+1=fz,⟨gT,fz,bt,cD,by omega,fY,by omega,λb=>Iff.rfl⟩,λb yB=>by
  rcases yB with e|e
  . exact .inl ((e1 b).2 (.inl e))
  . rcases dK with dK|dK
    . exact .inl ((e1 b).2 (.inr aa))
    . exact .inr aa⟩
theorem Tg:∀(L l:List aj),ak.fq (λ(s:List aj) x=>(s++[x],true)) l L=(l++L,true)
 | [],l=>by simp[ak.fq]
 | x::L,l=>by
  simp only[ak.fq,if_true]
  rw[Tg L (l++[x])];simp
theorem Th(m:Nat):∀(L l:List aj),l.length+L.length<=m->l7 (λ(s:List aj) (_:aj)=>s.length<=m) (λs x=>(s++[x],true)) l L
 | [],l,_=>trivial
 | x::L,l,h=>⟨by simp only[List.length_cons] at h;omega,λ_=>Th m L (l++[x]) (by simp only[List.length_cons,List.length_append,List.length_nil] at h ⊢;omega)⟩
theorem wm{α:Type}{l:List α}{k:Nat}{x:α}(ag:l[k]?=some x):l.drop k=x::l.drop (k+1):=by
 obtain⟨h,rfl⟩:=List.getElem?_eq_some_iff.1 ag;exact List.drop_eq_getElem_cons h
open ak in
open ak in
open ak in
open ak in
theorem ac0{w:aj}{k:Nat}{r:Int}(h:(jH w)[k]?=some r):ix w/\∃c:Nat,(hg w)[k]?=some c/\r=(c:Int)/\kN c:=by
 unfold jH at h;split at h
 . rename_i bD;have bD:=SE.1 bD;unfold dZ at h;rw[List.getElem?_map] at h;obtain⟨c,al,rfl⟩:=Option.map_eq_some_iff.1 h;exact⟨bD,c,al,rfl,(HE w bD).2 c (List.mem_of_getElem? al)⟩
 . simp at h
open ak in
open ak in
open ak in
theorem tX.yK{N:List cy}{s:c9}{words:List aj}(h:tX N s words):(∀x∈N,∀e∈x.2,b6 e.to/\-2147483648<=e.rune/\e.rune<=2147483647)/\N.length<=1000000/\∀x∈N,x.2.length<=1000000:=by
 rw[h.nodes];refine⟨λx ag e he=>?_,by rw[u5];exact h.size,λx ag=>?_⟩
 . obtain⟨y,aE,rfl⟩:=List.mem_map.1 ag;obtain⟨k,hk⟩:=List.mem_iff_getElem?.1 he;obtain⟨g,j,es,h1,ah,aB,bH,c_,e1⟩:=AD (h.node y aE).1 (h.node y aE).2.1 hk;have:=(List.getElem?_eq_some_iff.1 bH).1;have:=h.size;obtain⟨kz,_⟩:=c_;unfold b6;omega
 . obtain⟨y,aE,rfl⟩:=List.mem_map.1 ag;exact h.Tf y aE
theorem ac1{w:aj}{k:Nat}{r:Int}(h:(ak.jH w)[k]?=some r):0<=r/\r<=1114111:=by
 obtain⟨_,c,_,rfl,h1,_⟩:=ac0 h;omega
end Go.aG
namespace Go.aG
open Go Go.Proofs
theorem ac2(l:List aj):l.flatMap cx=l.map aD:=by
 induction l with
 | nil=>rfl
 | cons a l cc=>simp[cx,cc]
theorem ac3{P:Program}{Mh:Go.Shelf.Ren}(L:Lays.n156 P Mh)(X:Builder.Extra P Mh){w0:World}{F:Nat->Prop}{v:Value}{l:List aj}(h:aq cx w0 F v l)(dL:l≠[])(ab:∀b,F b->b<w0.heap.size)(hlen:ak.jh l+l.length<=100000000):
 Calls P (Mh.f 156) #[v,aD [255]] w0 (an λaC ai=>aC=aD (ak.p2 l)/\Ext w0 ai):=by
 obtain⟨a,cap,rfl,ah,aB,bH⟩:=h;rcases bH with bH|⟨b,off,rfl,bs,a'⟩
 . exact absurd bH dL
 . have bo:=ak.acW l
   have Ti:(l.map λs:aj=>(⟨s.toArray⟩:ByteArray)).map (·.data.toList)=l:=by
    rw[List.map_map]
    conv=>rhs;rw[<-List.map_id l]
    exact List.map_congr_left λs _=>by simp
   have al:=Any.strings_Join_48 L X b off cap (l.map λs:aj=>(⟨s.toArray⟩:ByteArray)) ⟨#[255]⟩ w0 (λj x ag=>by
    rw[List.getElem?_map] at ag
    obtain⟨s,aT,rfl⟩:=Option.map_eq_some_iff.1 ag
    have:=a' j (aD s) (by rw[ac2,List.getElem?_map,aT];rfl)
    exact this) (ab b bs) (by rw[List.length_map];omega) (by rw[List.length_map];exact ah) (by
    rw[Ti]
    have:(ak.p2 l).length<=281474976710656:=by omega
    exact this)
   rw[List.length_map,Ti] at al;refine Calls.mono al ?_;rintro e ao ⟨rfl,hw⟩;exact⟨_,rfl,rfl,Mod.aa4 hw⟩
end Go.aG
set_option linter.unusedSectionVars false
namespace Go.aG
open Go
structure dr (R:Nat->Prop) where
 p:(Nat->Prop)->World->Prop
 keep:∀{F:Nat->Prop} {w ao:World} {M:Nat->Prop},p F w->Mod M w ao->(∀b,F b->¬ M b)->(∀b,R b->¬ M b)->p F ao
def Sep{R:Nat->Prop}(L:List (dr R))(kg:Nat->Prop)(w:World):Prop:=
 ∃fi:Nat->Nat->Prop,(∀(i:Nat) (A:dr R),L[i]?=some A->A.p (fi i) w)/\(∀i b,fi i b->(kg b/\¬ R b)/\b<w.heap.size)/\∀i j b,i≠j->fi i b->¬ fi j b
section
variable {R:Nat->Prop} {L:List (dr R)} {kg:Nat->Prop} {w ao:World}
theorem Sep.keep{M:Nat->Prop}(h:Sep L kg w)(hm:Mod M w ao)(ac4:∀b,kg b->b<w.heap.size->¬ M b)(fo:∀b,R b->¬ M b):Sep L kg ao:=by
 obtain⟨fi,h1,ah,aB⟩:=h;exact⟨fi,λi A bf=>A.keep (h1 i A bf) hm (λb ab=>ac4 b (ah i b ab).1.1 (ah i b ab).2) fo,λi b ab=>⟨(ah i b ab).1,Nat.lt_of_lt_of_le (ah i b ab).2 hm.size⟩,aB⟩
theorem Sep.act{i:Nat}{A:dr R}(h:Sep L kg w)(fo:∀b,R b->b<w.heap.size)(ar:L[i]?=some A):∃F,A.p F w/\(∀b,F b->(kg b/\¬ R b)/\b<w.heap.size)/\∀(ao:World) (F':Nat->Prop) (A':dr R),Mod F w ao->A'.p F' ao->(∀b,F' b->b<ao.heap.size/\(F b\/(w.heap.size<=b/\kg b)))->Sep (L.set i A') kg ao:=by
 obtain⟨fi,h1,ah,aB⟩:=h;refine⟨fi i,h1 i A ar,ah i,λao F' A' hm EH rJ=>⟨λk=>if k=i then F' else fi k,λk B fY=>?_,λk b ab=>?_,λj k b n2 bo hk=>?_⟩⟩
 . by_cases hk:k=i
   . subst hk;rw[List.getElem?_set_self (List.getElem?_eq_some_iff.1 ar).1] at fY;simp only[if_true];cases fY;exact EH
   . rw[List.getElem?_set_ne (λe=>hk e.symm)] at fY;simp only[if_neg hk];exact B.keep (h1 k B fY) hm (λb ab ag=>aB k i b hk ab ag) λb ab ag=>(ah i b ag).1.2 ab
 . by_cases hk:k=i
   . subst hk;simp only[if_true] at ab;obtain⟨bH,c_⟩:=rJ b ab;exact⟨c_.elim (λh=>(ah k b h).1) (λh=>⟨h.2,λa'=>by have:=fo b a';omega⟩),bH⟩
   . simp only[if_neg hk] at ab;exact⟨(ah k b ab).1,Nat.lt_of_lt_of_le (ah k b ab).2 hm.size⟩
 . by_cases i_:j=i
   . have n1:k≠i:=λe=>n2 (i_.trans e.symm)
     simp only[if_pos i_] at bo;simp only[if_neg n1] at hk;rcases(rJ b bo).2 with c_|c_
     . exact aB i k b (λe=>n1 e.symm) c_ hk
     . have:=(ah k b hk).2;omega
   . simp only[if_neg i_] at bo;by_cases n1:k=i
     . simp only[if_pos n1] at hk;rcases(rJ b hk).2 with c_|c_
       . exact aB j i b i_ bo c_
       . have:=(ah j b bo).2;omega
     . simp only[if_neg n1] at hk;exact aB j k b n2 bo hk
theorem Sep.new{A:dr R}{F:Nat->Prop}(h:Sep L kg w)(fo:∀b,R b->b<w.heap.size)(hm:Ext w ao)(bf:A.p F ao)(bs:∀b,F b->kg b/\w.heap.size<=b/\b<ao.heap.size):Sep (L++[A]) kg ao:=by
 obtain⟨fi,h1,ah,aB⟩:=h;refine⟨λk=>if k=L.length then F else fi k,λk B fY=>?_,λk b ab=>?_,λj k b n2 bo hk=>?_⟩
 . by_cases hk:k=L.length
   . subst hk;rw[List.getElem?_append_right (Nat.le_refl _)] at fY;simp only[Nat.sub_self,List.getElem?_cons_zero,Option.some.injEq] at fY;subst fY;simp only[if_true];exact bf
   . simp only[if_neg hk];have hP:=(List.getElem?_eq_some_iff.1 fY).1;simp only[List.length_append,List.length_cons,List.length_nil] at hP;rw[List.getElem?_append_left aa] at fY;exact B.keep (h1 k B fY) hm (λb ab ag=>ag) λ_ _ ag=>ag
 . by_cases hk:k=L.length
   . simp only[if_pos hk] at ab;exact⟨⟨(bs b ab).1,λa'=>by have:=fo b a';have:=(bs b ab).2.1;omega⟩,(bs b ab).2.2⟩
   . simp only[if_neg hk] at ab;exact⟨(ah k b ab).1,Nat.lt_of_lt_of_le (ah k b ab).2 hm.size⟩
 . by_cases i_:j=L.length
   . have n1:k≠L.length:=λe=>n2 (i_.trans e.symm)
     simp only[if_pos i_] at bo;simp only[if_neg n1] at hk;have:=(ah k b hk).2;have:=(bs b bo).2.1;omega
   . simp only[if_neg i_] at bo;by_cases n1:k=L.length
     . simp only[if_pos n1] at hk;have:=(ah j b bo).2;have:=(bs b hk).2.1;omega
     . simp only[if_neg n1] at hk;exact aB j k b n2 bo hk
theorem Tj{α:Type}{L:List α}:∀(is:List Nat) (k:Nat),(∀i∈is,i<L.length)->(is.filterMap λi=>L[i]?)[k]?=(is[k]?).bind λi=>L[i]?
 | [],k,_=>by simp
 | i::is,0,h=>by
  have:=h i dh
  simp[List.getElem?_eq_getElem this]
 | i::is,k+1,h=>by
  have:=h i dh
  rw[List.filterMap_cons,List.getElem?_eq_getElem this]
  simp only[List.getElem?_cons_succ]
  exact Tj is k λj bo=>h j (by simp[bo])
theorem Sep.yO(is:List Nat)(h:Sep L kg w)(bl:(is.all λi=>decide (i<L.length))=true)(aR:is.Nodup):Sep (is.filterMap λi=>L[i]?) kg w:=by
 obtain⟨fi,h1,ah,aB⟩:=h;have HO:∀i∈is,i<L.length:=λi ar=>of_decide_eq_true (List.all_eq_true.1 bl i ar)
 refine⟨λk b=>∃i,is[k]?=some i/\fi i b,λk B fY=>?_,λk b ab=>?_,λj k b n2 bo hk=>?_⟩
 . rw[Tj is k HO] at fY;obtain⟨i,ar,fY⟩:=Option.bind_eq_some_iff.1 fY
   have e:(λb=>∃i,is[k]?=some i/\fi i b)=fi i:=by
    funext b
    rw[ar]
    exact propext ⟨λ⟨j,bo,ab⟩=>by cases bo;exact ab,λab=>⟨i,rfl,ab⟩⟩
   show B.p (λb=>∃i,is[k]?=some i/\fi i b) w;rw[e];exact h1 i B fY
 . obtain⟨i,_,ab⟩:=ab;exact ah i b ab
 . obtain⟨i,ar,Mi⟩:=bo;obtain⟨Ry,uS,ac5⟩:=hk;refine aB i Ry b (λe=>?_) Mi ac5;subst e;obtain⟨d_,q2⟩:=List.getElem?_eq_some_iff.1 ar;obtain⟨fE,gx⟩:=List.getElem?_eq_some_iff.1 uS;exact n2 ((List.getElem_inj aR).1 (q2.trans gx.symm))
theorem Sep.imp{i:Nat}{A A':dr R}(h:Sep L kg w)(fo:∀b,R b->b<w.heap.size)(ar:L[i]?=some A)(bf:∀F,A.p F w->A'.p F w):Sep (L.set i A') kg w:=by
 obtain⟨F,h1,ah,k⟩:=h.act fo ar;exact k w F A' (Mod.refl _ _) (bf F h1) λb ab=>⟨(ah b ab).2,.inl ab⟩
theorem Sep.two{i j:Nat}{A B:dr R}(h:Sep L kg w)(ar:L[i]?=some A)(bo:L[j]?=some B)(aR:i≠j):∃F G,A.p F w/\B.p G w/\(∀b,G b->¬ F b):=by
 obtain⟨fi,h1,ah,aB⟩:=h;exact⟨fi i,fi j,h1 i A ar,h1 j B bo,λb ab ag=>aB i j b aR ag ab⟩
end
def bh{R:Nat->Prop}(L:List (dr R)):dr R:=⟨λF w=>Sep L F w,λh hm bs fo=>h.keep hm (λb ab _=>bs b ab) fo⟩
theorem Sep.close{R:Nat->Prop}{L1 L2:List (dr R)}{kg:Nat->Prop}{w:World}(h:Sep (L1++L2) kg w):Sep (L1++[bh L2]) kg w:=by
 obtain⟨fi,h1,ah,aB⟩:=h;refine⟨λk b=>if k<L1.length then fi k b else k=L1.length/\∃j,fi (L1.length+j) b,λk B fY=>?_,λk b ab=>?_,λj k b n2 bo hk=>?_⟩
 . by_cases hk:k<L1.length
   . simp only[if_pos hk];rw[List.getElem?_append_left hk] at fY;exact h1 k B (by rw[List.getElem?_append_left hk];exact fY)
   . have hP:=(List.getElem?_eq_some_iff.1 fY).1;simp only[List.length_append,List.length_cons,List.length_nil] at hP;have rz:k=L1.length:=(by omega);subst rz;rw[List.getElem?_append_right (Nat.le_refl _)] at fY;simp only[Nat.sub_self,List.getElem?_cons_zero,Option.some.injEq] at fY;subst fY;simp only[Nat.lt_irrefl,if_false,true_and];exact⟨λj=>fi (L1.length+j),λj A bf=>h1 _ A (by rw[List.getElem?_append_right aa,Nat.add_sub_cancel_left];exact bf),λj b ab=>⟨⟨⟨j,ab⟩,(ah _ b ab).1.2⟩,(ah _ b ab).2⟩,λi j b mX=>aB _ _ b aa⟩
 . by_cases hk:k<L1.length
   . simp only[if_pos hk] at ab;exact ah k b ab
   . simp only[if_neg hk] at ab;obtain⟨_,j,ab⟩:=ab;exact ah _ b ab
 . by_cases EI:j<L1.length
   . simp only[if_pos EI] at bo;by_cases rz:k<L1.length
     . simp only[if_pos rz] at hk;exact aB j k b n2 bo hk
     . simp only[if_neg rz] at hk;obtain⟨_,m,hk⟩:=hk;exact aB j _ b aa bo hk
   . simp only[if_neg EI] at bo;obtain⟨e,m,bo⟩:=bo;by_cases rz:k<L1.length
     . simp only[if_pos rz] at hk;exact aB _ k b aa bo hk
     . simp only[if_neg rz] at hk;exact n2 (e.trans hk.1.symm)
theorem Sep.open{R:Nat->Prop}{L1 L2:List (dr R)}{kg:Nat->Prop}{w:World}(h:Sep (L1++[bh L2]) kg w):Sep (L1++L2) kg w:=by
 obtain⟨fi,h1,ah,aB⟩:=h;obtain⟨Tk,g1,g2,g3⟩:=h1 L1.length (bh L2) (by rw[List.getElem?_append_right (Nat.le_refl _)];simp);refine⟨λk=>if k<L1.length then fi k else Tk (k-L1.length),λk B fY=>?_,λk b ab=>?_,λj k b n2 bo hk=>?_⟩
 . by_cases hk:k<L1.length
   . simp only[if_pos hk];rw[List.getElem?_append_left hk] at fY;exact h1 k B (by rw[List.getElem?_append_left hk];exact fY)
   . simp only[if_neg hk];rw[List.getElem?_append_right aa] at fY;exact g1 _ B fY
 . by_cases hk:k<L1.length
   . simp only[if_pos hk] at ab;exact ah k b ab
   . simp only[if_neg hk] at ab;exact⟨(ah _ b (g2 _ b ab).1.1).1,(g2 _ b ab).2⟩
 . by_cases EI:j<L1.length
   . simp only[if_pos EI] at bo;by_cases rz:k<L1.length
     . simp only[if_pos rz] at hk;exact aB j k b n2 bo hk
     . simp only[if_neg rz] at hk;exact aB j L1.length b aa bo (g2 _ b hk).1.1
   . simp only[if_neg EI] at bo;by_cases rz:k<L1.length
     . simp only[if_pos rz] at hk;exact aB L1.length k b aa (g2 _ b bo).1.1 hk
     . simp only[if_neg rz] at hk;exact g3 _ _ b aa bo hk
section
variable {R:Nat->Prop}
def aw(b:Nat)(cs:List Value)(e:TypeId):dr R:=⟨λF w=>ds w b cs e/\F b,λh hm bs _=>⟨h.1.keep hm (bs b h.2),h.2⟩⟩
def aP{α:Type}(enc:α->List Value)(e:TypeId)(sz:Nat)(v:Value)(l:List α):dr R:=
 ⟨λF w=>∃g,Acc enc e sz w g v l/\∀b,b+1=g->F b,λ⟨g,h1,ah⟩ hm bs _=>⟨g,h1.keep hm λb ab=>bs b (ah b ab.symm),ah⟩⟩
def fc{α:Type}(enc:α->List Value)(vs:List (Value×List α)):dr R:=
 ⟨λF w=>∀x∈vs,aq enc w (λb=>F b\/R b) x.1 x.2,λh hm bs fo x ag=>(h x ag).keep hm λb ab=>ab.elim (bs b) (fo b)⟩
def lv{α β:Type}[DecidableEq α](key:α->Value)(val:β->Value)(b:Nat)(m:List (α×β)):dr R:=
 ⟨λF w=>nf key val w b m/\F b,λ{F w ao M} h hm bs _=>⟨by
  obtain⟨⟨es,c,h1,ah⟩,ab⟩:=h
  exact⟨es,c,hm.keep _ _ h1 (bs b ab),ah⟩,h.2⟩⟩
def nF{α:Type}(A:α->dr R):dr R:=⟨λF w=>∃a,(A a).p F w,λ⟨a,h⟩ hm bs fo=>⟨a,(A a).keep h hm bs fo⟩⟩
def ps(P:Prop)(A:dr R):dr R:=⟨λF w=>P/\A.p F w,λh hm bs fo=>⟨h.1,A.keep h.2 hm bs fo⟩⟩
def rK:dr R:=⟨λ_ _=>True,λ_ _ _ _=>trivial⟩
end
theorem Mj{F:Nat->Prop}{b:Nat}{w ao:World}(hm:Mod (b3 (b+1)) w ao)(ab:F b):Mod F w ao:=hm.weaken λsf yB _=>by
 have e:sf=b:=by unfold b3 at yB;omega
 rw[e];exact ab
structure au(R bV:Nat->Prop)(w0 w:World)(L:List (dr R)):Prop where
 mod:Mod bV w0 w
 wo:∀b,R b->b<w0.heap.size/\¬ bV b
 sep:Sep L (λb=>bV b\/w0.heap.size<=b) w
section
variable {R bV:Nat->Prop} {w0 w ao:World} {L:List (dr R)} {i j:Nat} {A B:dr R}
theorem au.tY(h:au R bV w0 w L):∀b,R b->b<w.heap.size:=λb ab=>Nat.lt_of_lt_of_le (h.wo b ab).1 h.mod.size
theorem au.start(w0:World)(fo:∀b,R b->b<w0.heap.size):au R (λ_=>False) w0 w0 []:=⟨Mod.refl _ _,λb ab=>⟨fo b ab,id⟩,⟨λ_ _=>False,λi A h=>by simp at h,λ_ _ h=>h.elim,λ_ _ _ _ h=>h.elim⟩⟩
theorem au.f_(w0:World):au (λ_=>False) (λ_=>False) w0 w0 []:=au.start w0 λ_ h=>h.elim
theorem au.hh{F:Nat->Prop}(bf:A.p F w0)(bs:∀b,F b->b<w0.heap.size/\¬ R b)(fo:∀b,R b->b<w0.heap.size):au R F w0 w0 [A]:=⟨Mod.refl _ _,λb ab=>⟨fo b ab,λh=>(bs b h).2 ab⟩,⟨λi b=>i=0/\F b,λi B h=>by
 cases i with
 | zero =>
  simp only[List.getElem?_cons_zero,Option.some.injEq] at h
  subst h
  simpa using bf
 | succ i=>simp at h,λi b h=>⟨⟨.inl h.2,(bs b h.2).2⟩,(bs b h.2).1⟩,λi j b mX h1 ah=>mX (h1.1.trans ah.1.symm)⟩⟩
theorem au.ext(h:au R bV w0 w L)(hm:Ext w ao):au R bV w0 ao L:=⟨h.mod.ext hm,h.wo,h.sep.keep hm (λ_ _ _ x=>x) λ_ _ x=>x⟩
theorem au.get(h:au R bV w0 w L)(ar:L[i]?=some A):∃F,A.p F w/\∀b,F b->b<w.heap.size:=by
 obtain⟨fi,h1,ah,_⟩:=h.sep;exact⟨fi i,h1 i A ar,λb ab=>(ah i b ab).2⟩
theorem au.act(h:au R bV w0 w L)(ar:L[i]?=some A):∃F,A.p F w/\(∀b,F b->((bV b\/w0.heap.size<=b)/\¬ R b)/\b<w.heap.size)/\∀(ao:World) (F':Nat->Prop) (A':dr R),Mod F w ao->A'.p F' ao->(∀b,F' b->b<ao.heap.size/\(F b\/w.heap.size<=b))->au R bV w0 ao (L.set i A'):=by
 obtain⟨F,h1,ah,k⟩:=h.sep.act h.tY ar;refine⟨F,h1,ah,λao F' A' hm EH rJ=>⟨h.mod.then hm λb ab bl=>(ah b ab).1.1.resolve_right aa,h.wo,k ao F' A' hm EH λb ab=>⟨(rJ b ab).1,(rJ b ab).2.imp id λab=>⟨ab,.inr (Nat.le_trans h.mod.size ab)⟩⟩⟩⟩
theorem au.Ct(h:au R bV w0 w L)(ar:L[i]?=some A)(bo:L[j]?=some B)(aR:i≠j):∃F G,A.p F w/\B.p G w/\(∀b,G b->¬ F b)/\(∀b,F b->((bV b\/w0.heap.size<=b)/\¬ R b)/\b<w.heap.size)/\(∀b,G b->b<w.heap.size)/\∀(ao:World) (F':Nat->Prop) (A':dr R),Mod F w ao->A'.p F' ao->(∀b,F' b->b<ao.heap.size/\(F b\/w.heap.size<=b))->au R bV w0 ao (L.set i A'):=by
 obtain⟨fi,h1,ah,aB⟩:=h.sep;let kg:Nat->Prop:=λb=>bV b\/w0.heap.size<=b
 refine⟨fi i,fi j,h1 i A ar,h1 j B bo,λb ab ag=>aB i j b aR ag ab,ah i,λb ab=>(ah j b ab).2,λao F' A' hm EH rJ=>⟨h.mod.then hm λb ab bl=>(ah i b ab).1.1.resolve_right aa,h.wo,⟨λk=>if k=i then F' else fi k,λk B fY=>?_,λk b ab=>?_,λj k b n2 bo hk=>?_⟩⟩⟩
 . by_cases hk:k=i
   . subst hk;rw[List.getElem?_set_self (List.getElem?_eq_some_iff.1 ar).1] at fY;simp only[if_true];cases fY;exact EH
   . rw[List.getElem?_set_ne (λe=>hk e.symm)] at fY;simp only[if_neg hk];exact B.keep (h1 k B fY) hm (λb ab ag=>aB k i b hk ab ag) λb ab ag=>(ah i b ag).1.2 ab
 . by_cases hk:k=i
   . subst hk;simp only[if_true] at ab;obtain⟨bH,c_⟩:=rJ b ab;exact⟨c_.elim (λh=>(ah k b h).1) (λab=>⟨.inr (Nat.le_trans h.mod.size ab),λa'=>by have:=h.tY b a';omega⟩),bH⟩
   . simp only[if_neg hk] at ab;exact⟨(ah k b ab).1,Nat.lt_of_lt_of_le (ah k b ab).2 hm.size⟩
 . by_cases i_:j=i
   . have n1:k≠i:=λe=>n2 (i_.trans e.symm)
     simp only[if_pos i_] at bo;simp only[if_neg n1] at hk;rcases(rJ b bo).2 with c_|c_
     . exact aB i k b (λe=>n1 e.symm) c_ hk
     . have:=(ah k b hk).2;omega
   . simp only[if_neg i_] at bo;by_cases n1:k=i
     . simp only[if_pos n1] at hk;rcases(rJ b hk).2 with c_|c_
       . exact aB j i b i_ bo c_
       . have:=(ah j b bo).2;omega
     . simp only[if_neg n1] at hk;exact aB j k b n2 bo hk
theorem au.new{F:Nat->Prop}(h:au R bV w0 w L)(hm:Ext w ao)(bf:A.p F ao)(bs:∀b,F b->w.heap.size<=b/\b<ao.heap.size):au R bV w0 ao (L++[A]):=
 ⟨h.mod.ext hm,h.wo,h.sep.new h.tY hm bf λb ab=>⟨.inr (Nat.le_trans h.mod.size (bs b ab).1),bs b ab⟩⟩
theorem au.yO(is:List Nat)(h:au R bV w0 w L)(bl:(is.all λi=>decide (i<L.length))=true)(aR:is.Nodup):au R bV w0 w (is.filterMap λi=>L[i]?):=⟨h.mod,h.wo,h.sep.yO is bl aR⟩
theorem au.imp{A':dr R}(h:au R bV w0 w L)(ar:L[i]?=some A)(bf:∀F,A.p F w->A'.p F w):au R bV w0 w (L.set i A'):=⟨h.mod,h.wo,h.sep.imp h.tY ar bf⟩
theorem au.close{L1 L2:List (dr R)}(h:au R bV w0 w (L1++L2)):au R bV w0 w (L1++[bh L2]):=⟨h.mod,h.wo,h.sep.close⟩
theorem au.open{L1 L2:List (dr R)}(h:au R bV w0 w (L1++[bh L2])):au R bV w0 w (L1++L2):=⟨h.mod,h.wo,h.sep.open⟩
theorem au.fin(h:au R bV w0 w [A]):Mod bV w0 w/\∃F',A.p F' w/\∀b,F' b->b<w.heap.size/\(bV b\/w0.heap.size<=b):=by
 obtain⟨fi,h1,ah,_⟩:=h.sep;exact⟨h.mod,fi 0,h1 0 A rfl,λb ab=>⟨(ah 0 b ab).2,(ah 0 b ab).1.1⟩⟩
theorem au.Mk{α:Type}{A:α->dr R}(h:au R bV w0 w L)(ar:L[i]?=some (nF A)):∃a,au R bV w0 w (L.set i (A a)):=by
 obtain⟨F,⟨a,ay⟩,ah,k⟩:=h.act ar;exact⟨a,k w F (A a) (Mod.refl _ _) ay λb ab=>⟨(ah b ab).2,.inl ab⟩⟩
theorem au.fr{α:Type}{A:α->dr R}(h:au R bV w0 w L)(a:α)(ar:L[i]?=some (A a)):au R bV w0 w (L.set i (nF A)):=h.imp ar λF x=>⟨a,x⟩
theorem au.ac6{b:Nat}{cs:List Value}{e:TypeId}(h:au R bV w0 w L)(ar:L[i]?=some (aw b cs e)):ds w b cs e:=by
 obtain⟨F,h1,_⟩:=h.get ar;exact h1.1
theorem au.o0{b:Nat}{cs cs':List Value}{e:TypeId}(h:au R bV w0 w L)(ar:L[i]?=some (aw b cs e))(hm:Mod (b3 (b+1)) w ao)(hk:ds ao b cs' e):au R bV w0 ao (L.set i (aw b cs' e)):=by
 obtain⟨F,h1,ah,k⟩:=h.act ar;exact k ao F _ (Mj hm h1.2) ⟨hk,h1.2⟩ λb ab=>⟨Nat.lt_of_lt_of_le (ah b ab).2 hm.size,.inl ab⟩
theorem au.cS{b:Nat}{cs:List Value}{e:TypeId}(h:au R bV w0 w L)(hm:Ext w ao)(ab:b=w.heap.size)(hk:ds ao b cs e):au R bV w0 ao (L++[aw b cs e]):=
 h.new (F:=λx=>x=b) hm ⟨hk,rfl⟩ λx ag=>by have:=hk.lt;omega
theorem au.map{α β:Type}[DecidableEq α]{key:α->Value}{val:β->Value}{b:Nat}{m:List (α×β)}(h:au R bV w0 w L)(ar:L[i]?=some (lv key val b m)):nf key val w b m:=by
 obtain⟨F,h1,_⟩:=h.get ar;exact h1.1
theorem au.l6{α β:Type}[DecidableEq α]{key:α->Value}{val:β->Value}{b:Nat}{m sU:List (α×β)}(h:au R bV w0 w L)(ar:L[i]?=some (lv key val b m))(hm:Mod (b3 (b+1)) w ao)(hk:nf key val ao b sU):au R bV w0 ao (L.set i (lv key val b sU)):=by
 obtain⟨F,h1,ah,k⟩:=h.act ar;exact k ao F _ (Mj hm h1.2) ⟨hk,h1.2⟩ λb ab=>⟨Nat.lt_of_lt_of_le (ah b ab).2 hm.size,.inl ab⟩
theorem au.Tl{α β:Type}[DecidableEq α]{key:α->Value}{val:β->Value}{b:Nat}{m:List (α×β)}(h:au R bV w0 w L)(hm:Ext w ao)(ab:b=w.heap.size)(hk:nf key val ao b m):au R bV w0 ao (L++[lv key val b m]):=
 h.new (F:=λx=>x=b) hm ⟨hk,rfl⟩ λx ag=>by have:=hk.lt;omega
section
variable {α:Type} {enc:α->List Value} {e:TypeId} {sz:Nat} {v:Value} {l:List α}
theorem Acc.uniq{g fz:Nat}{ao:World}(h:Acc enc e sz w g v l){ny:TypeId}{ac7:Nat}{jU:List α}(gL:Acc enc ny ac7 ao fz v jU):g=fz:=by
 rcases h with ⟨h1,_,ah⟩|⟨b,cap,cur,bK,h1,_⟩<;>rcases gL with ⟨bt,_,cD⟩|⟨sf,arq,ars,s_,bt,_⟩
 . omega
 . rw[h1] at bt;simp at bt
 . rw[h1] at bt;simp at bt
 . rw[h1] at bt;simp only[Value.slice.injEq,Option.some.injEq,Addr.mk.injEq] at bt;omega
theorem au.ac8(h:au R bV w0 w L)(ar:L[i]?=some (aP enc e sz v l)):∃g,Acc enc e sz w g v l/\g<=w.heap.size/\∀(ao:World) (fz:Nat) (gT:Value) (jU:List α),Mod (b3 g) w ao->Acc enc e sz ao fz gT jU->(fz=g\/w.heap.size<fz)->au R bV w0 ao (L.set i (aP enc e sz gT jU)):=by
 obtain⟨F,⟨g,h1,aB⟩,ah,k⟩:=h.act ar;refine⟨g,h1,h1.lt,λao fz gT jU hm ay aV=>k ao (λb=>b+1=fz) _ (hm.weaken λb ab _=>aB b ab) ⟨fz,ay,λb ab=>ab⟩ λb ab=>⟨?_,?_⟩⟩
 . have:=ay.lt;omega
 . rcases aV with aV|aV
   . exact .inl (aB b aa)
   . exact .inr aa
theorem au.fR{g:Nat}(h:au R bV w0 w L)(hm:Ext w ao)(ay:Acc enc e sz ao g v l)(aV:g=0\/w.heap.size<g):au R bV w0 ao (L++[aP enc e sz v l]):=
 h.new (F:=λb=>b+1=g) hm ⟨g,ay,λb ab=>ab⟩ λb ab=>by have:=ay.lt;omega
theorem au.ne{b g:Nat}{cs:List Value}{ny:TypeId}(h:au R bV w0 w L)(ar:L[i]?=some (aP enc e sz v l))(bo:L[j]?=some (aw b cs ny))(mX:i≠j)(ay:Acc enc e sz w g v l):b+1≠g:=by
 obtain⟨F,G,⟨fz,h1,ah⟩,aB,bH⟩:=h.sep.two ar bo mX;have:=ay.uniq h1;subst this;intro e;exact bH b aB.2 (ah b e)
theorem au.cj{vs:List (Value×List α)}{k:Nat}(h:au R bV w0 w L)(ar:L[i]?=some (fc enc vs))(hk:vs[k]?=some (v,l)):aq enc w (dq 0 w.heap.size) v l:=by
 obtain⟨F,h1,ah⟩:=h.get ar;exact(h1 _ (List.mem_of_getElem? hk)).mono λb ab=>⟨Nat.zero_le _,ab.elim (ah b) (h.tY b)⟩
theorem au.Tm{vs:List (Value×List α)}{k:Nat}(h:au R bV w0 w L)(ar:L[i]?=some (fc enc vs))(hk:vs[k]?=some (v,l)):∃F:Nat->Prop,aq enc w F v l/\∀gT jU,aq enc w F gT jU->au R bV w0 w (L.set i (fc enc (vs++[(gT,jU)]))):=by
 obtain⟨F,h1,ah,jy⟩:=h.act ar;refine⟨λb=>F b\/R b,h1 _ (List.mem_of_getElem? hk),λgT jU aT=>jy w F _ (Mod.refl _ _) (λx ag=>?_) λb ab=>⟨(ah b ab).2,.inl ab⟩⟩;rcases List.mem_append.1 ag with ag|ag
 . exact h1 x ag
 . simp only[List.mem_singleton] at ag;subst ag;exact aT
theorem au.EJ(h:au R bV w0 w L)(hm:Ext w ao)(aT:aq enc ao (dq w.heap.size ao.heap.size) v l):au R bV w0 ao (L++[fc enc [(v,l)]]):=
 h.new (F:=dq w.heap.size ao.heap.size) hm (λx ag=>by simp only[List.mem_singleton] at ag;subst ag;exact aT.mono λb ab=>.inl ab) λb ab=>ab
theorem au.hI{b:Nat}(h:au R bV w0 w L)(hm:Ext w ao)(ab:b=w.heap.size)(cO:ao.heap.size=w.heap.size+1)(aT:aq enc ao (dq b (b+1)) v l):au R bV w0 ao (L++[fc enc [(v,l)]]):=
 h.EJ hm (aT.mono λx ag=>by unfold dq at *;omega)
theorem aq.jJ{F:Nat->Prop}(h:aq enc w F v l){P:Program}{t:TypeId}{by_:Nat}{g:Bool}{z:List Value}(a_:P.underlying t=some (.slice e))(he:ey P e=some (g,sz,by_,z))(dN:∀x,(enc x).length=sz){k:IntKind}{n:Int}(i:Nat)(aR:n=(i:Int))(ar:i<l.length):
 ∃x b off,l[i]?=some x/\(∀w,(Instr.indexAt t v (.int k n)).run P w=.ok (ptr b off) w)/\F b/\Row w b off (enc x):=by
 obtain⟨b,off,h1,ah,aB⟩:=h.at a_ he dN (k:=k) i aR ar;exact⟨l[i],b,off,by simp,h1,ah,aB⟩
theorem aq.rowAt{F:Nat->Prop}(h:aq enc w F v l){P:Program}{t:TypeId}{by_:Nat}{g:Bool}{z:List Value}(a_:P.underlying t=some (.slice e))(he:ey P e=some (g,sz,by_,z))(dN:∀x,(enc x).length=sz){k:IntKind}{n:Int}(i:Nat)(aR:n=(i:Int)){x:α}{b off:Nat}(ag:l[i]?=some x)
 (a':∀w,(Instr.indexAt t v (.int k n)).run P w=.ok (ptr b off) w):Row w b off (enc x):=by
 obtain⟨ac9,sf,RU,s',LG,_,rL⟩:=h.jJ a_ he dN (k:=k) i aR (List.getElem?_eq_some_iff.1 ag).1;have fU:=(a' w).symm.trans (LG w);simp only[ptr,Result.ok.injEq,Value.pointer.injEq,Option.some.injEq,Addr.mk.injEq,and_true] at fU;obtain⟨rfl,rfl⟩:=fU;rw[ag] at s';cases s';exact rL
theorem au.freeze(h:au R bV w0 w L)(ar:L[i]?=some (aP enc e sz v l)):au R bV w0 w (L.set i (fc enc [(v,l)])):=
 h.imp ar λF ag x s'=>by
  obtain⟨g,h1,ah⟩:=ag
  simp only[List.mem_singleton] at s'
  subst s'
  refine h1.cj.mono λb ab=>?_
  rcases h1 with ⟨_,_,bH⟩|⟨sf,cap,cur,bK,_⟩
  . unfold dq at ab;omega
  . exact .inl (ah b (by unfold dq at ab;omega))
theorem au.ac_{G:Nat->Prop}(h:au R bV w0 w L)(aT:aq enc w0 G v l)(cb:∀b,G b->R b):au R bV w0 w (L++[fc enc [(v,l)]]):=
 h.new (F:=λ_=>False) (Mod.refl _ _) (λx ag=>by
  simp only[List.mem_singleton] at ag
  subst ag
  exact(aT.keep h.mod λb ab=>(h.wo b (cb b ab)).2).mono λb ab=>.inr (cb b ab)) λ_ ab=>ab.elim
end
end
section
variable {w0 w:World} {R:Nat->Prop} {Tn:List (dr (λ_=>False))} {L:List (dr R)} {i:Nat} {α:Type} {enc:α->List Value} {e:TypeId} {sz:Nat} {v:Value} {l:List α}
theorem au.HP{vs:List (Value×List α)}{k:Nat}(h:au (λ_=>False) (λ_=>False) w0 w Tn)(ar:Tn[i]?=some (fc enc vs))(hk:vs[k]?=some (v,l)):aq enc w (dq w0.heap.size w.heap.size) v l:=by
 obtain⟨F,h1,ah,_⟩:=h.act ar;exact(h1 _ (List.mem_of_getElem? hk)).mono λb ab=>⟨(ah b (ab.resolve_right id)).1.1.resolve_left λx=>x,(ah b (ab.resolve_right id)).2⟩
theorem au.ta(h:au R (λ_=>False) w0 w L)(ar:L[i]?=some (aP enc e sz v l)):∃g,Acc enc e sz w g v l/\(g=0\/w0.heap.size<g):=by
 obtain⟨F,⟨g,h1,aB⟩,ah,_⟩:=h.act ar;refine⟨g,h1,?_⟩;rcases(by omega:g=0\/0<g) with aV|aV
 . exact .inl aV
 . have:=(ah (g-1) (aB _ aa)).1.1.resolve_left λx=>x
   exact .inr aa
theorem au.ac'(h:au R (λ_=>False) w0 w L)(ar:L[i]?=some (aP enc e sz v l)):aq enc w (dq w0.heap.size w.heap.size) v l:=by
 obtain⟨g,h1,ah⟩:=h.ta ar;exact h1.fresh ah
end
theorem au.out{R bV G:Nat->Prop}{w0 w:World}{L:List (dr R)}{α:Type}{enc:α->List Value}{v:Value}{l:List α}(h:au R bV w0 w L)(aT:aq enc w0 G v l)(cb:∀b,G b->¬ bV b):aq enc w G v l:=aT.keep h.mod cb
end Go.aG
namespace Go.aG
open Go
def qv{R:Nat->Prop}{α:Type}(rI e:TypeId)(sz:Nat)(enc:α->List Value)(e7:Nat)(l:List α):dr R:=nF λv:Value=>bh [aw e7 [v] rI,aP enc e sz v l]
end Go.aG
set_option linter.unusedSectionVars false
namespace Go.aG
open Go
section
variable {P:Program} {E:Env} {C:World->Prop} {d:Option Tmp} {ty:TypeId} {pos:String} {af:Array Edge} {gd:Option (Nat×Bool)} {w:World} {K:Value->World->Prop}
theorem bA.Cu{x y:Operand}{xt yt:TypeId}{p q:Int}(r:Int)(ag:aO E x=some (.int .i32 p))(aE:aO E y=some (.int .i32 q))(a':0<=p/\p<=2147483647/\1<=q/\p / q=r):bA P ⟨d,.binOp .quo xt x y yt,ty,pos,af,gd⟩ E C (.int .i32 r):=by
 have h:=bA.quo (P:=P) (C:=C) (d:=d) (xt:=xt) (yt:=yt) (ty:=ty) (pos:=pos) (af:=af) (gd:=gd) ag aE aa
 have e:IntKind.i32.wrap (p.tdiv q)=r:=by
  rw[Int.tdiv_eq_ediv_of_nonneg a'.1,a'.2.2.2]
  have bK:=Int.ediv_nonneg a'.1 (by omega:0<=q)
  have h1:=Int.ediv_le_self q a'.1
  exact IntWalk.i32_in _ aa
 rw[e] at h;exact h
theorem ada{b off:Nat}{l:aj}(a':Row w b off (l.flatMap eB))(j:Nat)(bo:j<l.length):w.cell? ((⟨b,off,none⟩:Addr).add j)=some (.int .u8 (l[j].toNat:Int)):=by
 have bD:l.flatMap eB=l.map λc=>Value.int .u8 (c.toNat:Int):=by
  clear a' bo
  induction l with
  | nil=>rfl
  | cons a l cc=>simp[eB,cc]
 rw[add_lit];exact a'.cell j _ (by rw[bD,List.getElem?_map,List.getElem?_eq_getElem bo];rfl)
theorem gB.AF{s t e:TypeId}{x:Operand}{v:Value}{F:Nat->Prop}{l:aj}(aT:P.underlying s=some (.slice e))(he:P.underlying e=some (.int .u8))(a_:P.underlying t=some .string)(ag:aO E x=some v)(h:aq eB w F v l)(eU:K (aD l) w):
 gB P ⟨d,.convert s t x,ty,pos,af,gd⟩ E w K:=λa ay=>by
 obtain⟨AG,cap,rfl,ah,aB,bH⟩:=h
 have a':(convert s t (.slice AG l.length cap)).run P w=.ok (aD l) w:=by
  rcases bH with rfl|⟨b,off,rfl,_,a'⟩
  . show(convert s t (.slice AG 0 cap)).run P w=_
    rw[run_convert_bytes_string w s t e AG 0 cap aT he a_]
    cases AG<;>simp[Conv.bytesToString,loadCells,loadCellsFrom,aD]<;>rfl
  . exact run_convert_bytes_back w s t e _ cap l aT he a_ (ada a')
 simp[execOp,ay.aO ag,a',out]
 exact eU
end
end Go.aG
namespace Go.aG
open Go
def gC(n:Int):UInt8:=UInt8.ofNat (n % 256).toNat
theorem u6(n:Int):((gC n).toNat:Int)=n % 256:=by
 have bK:=Int.emod_nonneg n (by omega:(256:Int)≠0);unfold gC;rw[UInt8.toNat_ofNat'];omega
theorem adb(n:Nat):gC (n:Int)=UInt8.ofNat n:=by
 apply UInt8.toNat_inj.1;have:=u6 (n:Int);rw[UInt8.toNat_ofNat'];omega
section
variable {P:Program} {E:Env} {C:World->Prop} {d:Option Tmp} {ty:TypeId} {pos:String} {af:Array Edge} {gd:Option (Nat×Bool)} {w:World} {K:Value->World->Prop}
theorem bA.sl{s t:TypeId}{x:Operand}{k:IntKind}{p:Int}(aT:(P.underlying s).isSome=true)(a_:P.underlying t=some (.int .u8))(ag:aO E x=some (.int k p)):bA P ⟨d,.convert s t x,ty,pos,af,gd⟩ E C (.int .u8 ((gC p).toNat:Int)):=by
 have h:=bA.tH (P:=P) (C:=C) (d:=d) (ty:=ty) (pos:=pos) (af:=af) (gd:=gd) aT a_ ag;have e:IntKind.u8.wrap p=((gC p).toNat:Int):=(by rw[u6,IntKind.wrap_u8]);rw[e] at h;exact h
end
end Go.aG
namespace Go.aG
open Go
theorem xy{a b:Nat}(ay:a<4294967296)(ab:b<4294967296):a ^^^ b<4294967296:=Nat.xor_lt_two_pow (n:=32) ay ab
theorem HQ{a:Nat}(ay:a<4294967296):4294967295 ^^^ a=4294967295-a:=by
 have h:(4294967295 ^^^ a)=(BitVec.ofNat 32 4294967295 ^^^ BitVec.ofNat 32 a).toNat:=by
  rw[BitVec.toNat_xor,BitVec.toNat_ofNat,BitVec.toNat_ofNat,Nat.mod_eq_of_lt (by omega:a<2 ^ 32)]
 have ah:BitVec.ofNat 32 4294967295=BitVec.allOnes 32:=rfl;rw[h,ah,BitVec.allOnes_xor,BitVec.toNat_not,BitVec.toNat_ofNat,Nat.mod_eq_of_lt (by omega:a<2 ^ 32)]
theorem ade{a b:Nat}(ab:b<256):a*256 ||| b=a*256+b:=by
 have:=Nat.shiftLeft_add_eq_or_of_lt (i:=8) (b:=b) aa a;rw[Nat.shiftLeft_eq] at this;exact this.symm
section
variable {P:Program} {E:Env} {C:World->Prop} {d:Option Tmp} {ty:TypeId} {pos:String} {af:Array Edge} {gd:Option (Nat×Bool)} {xt yt:TypeId} {x y:Operand}
theorem bA.Ml{a b:Nat}(ag:aO E x=some (.int .u32 (a:Int)))(aE:aO E y=some (.int .u32 (b:Int)))(ay:a<4294967296)(ab:b<4294967296):bA P ⟨d,.binOp .xor xt x y yt,ty,pos,af,gd⟩ E C (.int .u32 ((a ^^^ b:Nat):Int)):=λs aT w _=>by
 have h:=u32_xor_nat a b ay ab
 simp[execOp,aT.aO ag,aT.aO aE,eqGuard,Go.binOp,intBits_xor,h]
theorem bA.To{a b:UInt8}(ag:aO E x=some (.int .u8 (a.toNat:Int)))(aE:aO E y=some (.int .u8 (b.toNat:Int))):bA P ⟨d,.binOp .xor xt x y yt,ty,pos,af,gd⟩ E C (.int .u8 ((a ^^^ b).toNat:Int)):=λs aT w _=>by
 have h:=u8_xor_nat a.toNat b.toNat a.toNat_lt b.toNat_lt
 rw[<-UInt8.toNat_xor] at h
 simp[execOp,aT.aO ag,aT.aO aE,eqGuard,Go.binOp,intBits_xor,h]
theorem bA.Tp{p q:Int}(r:Int)(ag:aO E x=some (.int .u64 p))(aE:aO E y=some (.int .u64 q))(a':p+q=r/\0<=r/\r<=18446744073709551615):bA P ⟨d,.binOp .add xt x y yt,ty,pos,af,gd⟩ E C (.int .u64 r):=by
 have h:=bA.add (P:=P) (C:=C) (d:=d) (xt:=xt) (yt:=yt) (ty:=ty) (pos:=pos) (af:=af) (gd:=gd) ag aE;rw[IntWalk.u64_in _ aa,a'.1] at h;exact h
theorem bA.adf{a:Nat}(ag:aO E x=some (.int .u32 (a:Int)))(aE:aO E y=some (.int .u32 1))(ay:a<4294967296):bA P ⟨d,.binOp .and xt x y yt,ty,pos,af,gd⟩ E C (.int .u32 ((a % 2:Nat):Int)):=λs aT w _=>by
 have h:=u32_and_nat a 1 ay aa
 rw[Nat.and_one_is_mod] at h
 have gL:bits .and .u32 (a:Int) 1=((a % 2:Nat):Int):=h
 simp[execOp,aT.aO ag,aT.aO aE,eqGuard,Go.binOp,intBits_and,gL]
theorem bA.Tq{a b:Nat}(ag:aO E x=some (.int .u64 ((a*256:Nat):Int)))(aE:aO E y=some (.int .u64 (b:Int)))(ay:a*256<18446744073709551616)(ab:b<256):bA P ⟨d,.binOp .or xt x y yt,ty,pos,af,gd⟩ E C (.int .u64 ((a*256+b:Nat):Int)):=λs aT w _=>by
 have h:=u64_or_nat (a*256) b ay aa
 rw[ade ab] at h
 simp[execOp,aT.aO ag,aT.aO aE,eqGuard,Go.binOp,intBits_or]
 simpa using h
theorem bA.HQ{a:Nat}(ag:aO E x=some (.int .u32 (a:Int)))(ay:a<4294967296):bA P ⟨d,.unOp .xor xt x,ty,pos,af,gd⟩ E C (.int .u32 ((4294967295-a:Nat):Int)):=λs aT w _=>by
 have h:=u32_xor_nat 4294967295 a aa ay
 rw[aG.HQ ay] at h
 have gL:bits .xor .u32 4294967295 (a:Int)=((4294967295-a:Nat):Int):=h
 simp[execOp,aT.aO ag,Op.unary,intBits_xor,IntKind.signed,IntKind.max]
 exact gL
theorem bA.Mm{k jy:IntKind}{p m:Int}(n:Nat)(ag:aO E x=some (.int k p))(aE:aO E y=some (.int jy m))(hm:m=(n:Int))(aR:n<=k.bits):bA P ⟨d,.binOp .shr xt x y yt,ty,pos,af,gd⟩ E C (.int k (p / 2 ^ n)):=λs aT w _=>by
 subst hm
 have h:=shift_shr k jy p (n:Int) aa aa
 simp[execOp,aT.aO ag,aT.aO aE,eqGuard,Go.binOp,h]
theorem bA.adg{a b:Nat}(ag:aO E x=some (.int .u32 (a:Int)))(aE:aO E y=some (.int .u32 (b:Int)))(ab:b<=a)(ay:a<4294967296):bA P ⟨d,.binOp .sub xt x y yt,ty,pos,af,gd⟩ E C (.int .u32 ((a-b:Nat):Int)):=by
 have h:=bA.sub (P:=P) (C:=C) (d:=d) (xt:=xt) (yt:=yt) (ty:=ty) (pos:=pos) (af:=af) (gd:=gd) ag aE;rw[IntWalk.u32_in _ aa,show(a:Int)-(b:Int)=((a-b:Nat):Int) from by omega] at h;exact h
theorem bA.Tr{jy:IntKind}{a:Nat}(ag:aO E x=some (.int .u64 (a:Int)))(aE:aO E y=some (.int jy 8))(ay:a*256<18446744073709551616):bA P ⟨d,.binOp .shl xt x y yt,ty,pos,af,gd⟩ E C (.int .u64 ((a*256:Nat):Int)):=λs aT w _=>by
 have h:=shift_shl .u64 jy (a:Int) 8 aa b0
 have e:IntKind.u64.wrap ((a:Int)*2 ^ (8:Int).toNat)=((a*256:Nat):Int):=by
  rw[IntKind.wrap_u64]
  have:((a:Int)*2 ^ (8:Int).toNat)=((a*256:Nat):Int):=by simp
  rw[this];omega
 rw[e] at h
 simp[execOp,aT.aO ag,aT.aO aE,eqGuard,Go.binOp,h]
theorem bA.adh{a:Nat}(b:Nat)(ag:aO E x=some (.int .u32 (a:Int)))(aE:aO E y=some (.int .u32 (b:Int)))(ab:b≠0)(ay:a<4294967296):bA P ⟨d,.binOp .quo xt x y yt,ty,pos,af,gd⟩ E C (.int .u32 ((a / b:Nat):Int)):=by
 have h:=bA.quo (P:=P) (C:=C) (d:=d) (xt:=xt) (yt:=yt) (ty:=ty) (pos:=pos) (af:=af) (gd:=gd) ag aE aa
 have e:IntKind.u32.wrap ((a:Int).tdiv (b:Int))=((a / b:Nat):Int):=by
  rw[Int.tdiv_eq_ediv_of_nonneg aa,<-Int.natCast_ediv]
  have:=Nat.div_le_self a b
  generalize a / b=q at *
  exact IntWalk.u32_in _ aa
 rw[e] at h;exact h
end
end Go.aG
namespace Go.aG
open Go
section
variable {P:Program} {E:Env} {d:Option Tmp} {ty:TypeId} {pos:String} {af:Array Edge} {gd:Option (Nat×Bool)} {w:World} {K:Value->World->Prop}
theorem gB.adi{s e ny:TypeId}{x:Operand}{b n c:Nat}{cs:List Value}(aT:P.underlying s=some (.slice e))(he:P.underlying e=some (.int .u8))(ag:aO E x=some (.slice (some ⟨b,0,none⟩) n c))(ab:ds w b cs ny)
 (eU:∀ao,Mod (b3 (b+1)) w ao->ao.heap.size=w.heap.size->Row ao b 0 cs->K (.slice (some ⟨b,0,none⟩) n c) ao):gB P ⟨d,.convert s s x,ty,pos,af,gd⟩ E w K:=λa ay=>by
 have yP:w.shape? b=some (ny,cs.length):=by
  unfold World.shape?
  rw[show w.heap[b]?=some (.cells cs.toArray ny (0,0)) from ab]
  simp
 have a':(convert s s (.slice (some ⟨b,0,none⟩) n c)).run P w=.ok (.slice (some ⟨b,0,none⟩) n c) (w.freeze ⟨b,cs.length,none⟩ 1):=by
  simp[convert,run_underlying aT,run_underlying he,markStringish,yP]
 have hF:(w.freeze ⟨b,cs.length,none⟩ 1).heap[b]?=some (.cells cs.toArray ny (cs.length,cs.length+1)):=by
  unfold World.freeze
  rw[if_neg b0]
  simp only[Array.getElem?_modify,if_true]
  rw[show w.heap[b]?=some (.cells cs.toArray ny (0,0)) from ab]
  rfl
 simp[execOp,ay.aO ag,a',out]
 refine eU _ ⟨rfl,rfl,rfl,?_,?_⟩ ?_ ?_
 . unfold World.freeze
   rw[if_neg b0]
   simp
 . intro sf o eh aR
   unfold World.freeze
   rw[if_neg b0]
   simp only[Array.getElem?_modify]
   rw[if_neg (λe=>aR (by unfold b3;omega))]
   exact eh
 . unfold World.freeze
   rw[if_neg b0]
   simp
 . intro i v cK
   unfold World.cell?
   simp only[Option.isSome_none,Bool.false_eq_true,if_false]
   rw[hF]
   simpa using cK
end
theorem aq.adj{α:Type}{enc:α->List Value}{w:World}{b:Nat}{l:List α}(h:Row w b 0 (l.flatMap enc))(n:Nat)(aR:n=l.length)(hm:n<=maxLen):aq enc w (dq b (b+1)) (.slice (some ⟨b,0,none⟩) n n) l:=
 ⟨some ⟨b,0,none⟩,n,by rw[aR],by omega,hm,.inr ⟨b,0,rfl,⟨Nat.le_refl _,by omega⟩,h⟩⟩
end Go.aG
namespace Go.ak
open Go.aG
theorem Mn(s:aj)(l:List aj):jh (s::l)=s.length+jh l:=by simp[jh]
theorem Ts(a b:List aj):jh (a++b)=jh a+jh b:=by simp[jh]
theorem adk(p:aj)(l:List aj):jh (l.map (p++·))=l.length*p.length+jh l:=by
 induction l with
 | nil=>simp[jh]
 | cons s l cc=>simp only[List.map_cons,Mn,cc,List.length_append,List.length_cons,Nat.add_mul,Nat.one_mul];omega
theorem Tt{p:aj}(hp:1<=p.length)(l:List aj):jh (eZ p l)+(eZ p l).length+jh (l4 p l)<=jh l:=by
 have h:=congrArg jh (Ez p l);rw[Ts,adk] at h;have:=Nat.mul_le_mul_left (eZ p l).length hp;omega
theorem Tu(p:aj)(l:List aj):(eZ p l).length+(l4 p l).length=l.length:=by
 have h:=congrArg List.length (Ez p l);rw[List.length_append,List.length_map] at h;exact h
theorem HR(l:List aj):jh (fG l)=jh l:=by
 cases l with
 | nil=>rfl
 | cons a r=>cases a<;>simp[fG,jh]
theorem HS(l:List aj):(fG l).length<=l.length:=by
 cases l with
 | nil=>simp[fG]
 | cons a r=>cases a<;>simp[fG]
def Cv(gs:List (Nat×List aj)):Nat:=(gs.map λg=>jh g.2+1).sum
theorem Tv:∀(n:Nat) (l:List aj),l.length<=n->gv l->(∀s∈l,s≠[])->Cv (ha l)<=jh l
 | _,[],_,_,_=>by simp[Ar,Cv]
 | 0,s::r,h,_,_=>by simp at h
 | n+1,s::r,aR,h,dL=>by
  have bl:=Aq s r
  simp only[List.length_cons] at aR
  have aT:=dL s dh
  have bD:=h.oY s dh
  have hp:dF s=en (gf s):=(yI aT ((yJ aT).1 bD).1).2.symm
  have cc:=Tv n (l4 (dF s) (s::r)) aa (h.more _) (λt a_=>dL t ((List.dropWhile_suffix _).subset a_))
  have h1:=Tt (p:=dF s) (by rw[hp];exact SF _) (s::r)
  have ah:1<=(eZ (dF s) (s::r)).length:=by
   unfold eZ
   rw[List.takeWhile_cons,if_pos (Ap s)];simp
  rw[Cj]
  unfold Cv at cc ⊢
  simp only[List.map_cons,List.sum_cons]
  omega
theorem Tw{add:c9->List aj->c9×Nat}:∀(gs:List (Nat×List aj)) (s:c9),(∀g∈gs,∀s,(add s g.2).1.length<=s.length+1+jh g.2)->(lM add s gs).1.length<=s.length+Cv gs
 | [],s,_=>by simp[lM,Cv]
 | g::gs,s,h=>by
  have h1:=h g dh s
  have ah:=Tw gs (add s g.2).1 (λfz s6=>h fz (by simp[s6]))
  show(lM add (add s g.2).1 gs).1.length<=_
  unfold Cv at ah ⊢
  simp only[List.map_cons,List.sum_cons]
  omega
theorem yQ:∀(f:Nat) (s:c9) (aI:List aj),gv aI->(e3 f s aI).1.length<=s.length+1+jh aI
 | 0,s,aI,_=>by simp[e3];omega
 | f+1,s,aI,aV=>by
  unfold e3
  cases ar:s.findIdx? λx=>x.1==aI with
  | some i=>simp;omega
  | none =>
   simp only[List.length_set]
   have hd:=u2 aV
   have ok:=xu _ _ (Nat.le_refl _) hd.1 hd.2
   have h1:=Tw (add:=e3 f) (ha (fG aI)) (s++[(aI,[])]) (λg iM jT=>yQ f jT g.2 (ok.fQ g iM).2.2)
   have ah:=Tv _ _ (Nat.le_refl _) hd.1 hd.2
   rw[HR] at ah
   simp only[List.length_append,List.length_cons,List.length_nil] at h1
   omega
theorem HT{f:Nat}{s:c9}{aI:List aj}(hd:Deep f aI)(aV:gv aI)(dL:aI≠[])(aR:(names s).Nodup)(bW:wh s):wh (e3 (f+1) s aI).1/\(names (e3 (f+1) s aI).1).Nodup:=by
 have h:=Av f s aI hd aV dL aR;obtain⟨t,e,k⟩:=h.tail;refine⟨λx ag=>?_,h.apart⟩;rw[e] at ag;rcases List.mem_append.1 ag with ag|ag
 . exact bW x ag
 . exact⟨(k x ag).ne,(k x ag).fQ.ED⟩
theorem Cw{f:Nat}{s:c9}{aI:List aj}(hd:Deep f aI)(aV:gv aI)(dL:aI≠[])(aR:(names s).Nodup):(e3 (f+1) s aI).2<(e3 (f+1) s aI).1.length:=by
 obtain⟨es,h⟩:=(Av f s aI hd aV dL aR).here;exact(List.getElem?_eq_some_iff.1 h).1
def mJ(f:Nat)(q1:c9)(tc:List (Nat×List aj))(q3:c9)(eu:List cd)(dW:List aj):Prop:=
 lM (e3 f) q1 tc=((lM (e3 f) q3 (ha dW)).1,eu++(lM (e3 f) q3 (ha dW)).2)
theorem mJ.start(f:Nat)(q1:c9)(r:List aj):mJ f q1 (ha r) q1 [] r:=by unfold mJ;simp
theorem mJ.next{f:Nat}{q1:c9}{tc:List (Nat×List aj)}{q3:c9}{eu:List cd}{s:aj}{r:List aj}(h:mJ f q1 tc q3 eu (s::r)):
 mJ f q1 tc (e3 f q3 (eZ (dF s) (s::r))).1 (eu++[⟨(gf s:Int),((e3 f q3 (eZ (dF s) (s::r))).2:Int)⟩]) (l4 (dF s) (s::r)):=by
 unfold mJ at h ⊢;rw[h,Cj];simp only[lM,List.append_assoc,List.cons_append,List.nil_append]
theorem mJ.fin{f:Nat}{q1:c9}{tc:List (Nat×List aj)}{q3:c9}{eu:List cd}(h:mJ f q1 tc q3 eu []):lM (e3 f) q1 tc=(q3,eu):=by
 unfold mJ at h;rw[h,Ar];simp[lM]
theorem HU{f:Nat}{s:c9}{aI:List aj}{i:Nat}(h:(s.findIdx? λx=>x.1==aI)=some i):e3 (f+1) s aI=(s,i):=by
 unfold e3;rw[h]
theorem Mo{f:Nat}{s xs:c9}{aI:List aj}{eu:List cd}(h:(s.findIdx? λx=>x.1==aI)=none)(he:lM (e3 f) (s++[(aI,[])]) (ha (fG aI))=(s++(aI,[])::xs,eu)):e3 (f+1) s aI=(s++(aI,eu)::xs,s.length):=by
 unfold e3;rw[h];simp only[he];rw[List.set_append_right _ _ (Nat.le_refl _)];simp
theorem mJ.cast{f:Nat}{q1 q3 Tx:c9}{tc:List (Nat×List aj)}{eu:List cd}{r Ty:List aj}(h:mJ f q1 tc q3 eu r)(fU:q3=Tx)(je:r=Ty):mJ f q1 tc Tx eu Ty:=by subst fU je;exact h
theorem mJ.Cx{f:Nat}{q1:c9}{tc:List (Nat×List aj)}{q3:c9}{eu:List cd}{x:aj}{dW:List aj}(ag:dW[0]?=some x)(h:mJ f q1 tc q3 eu dW):
 mJ f q1 tc (e3 f q3 (eZ (dF x) dW)).1 (eu++[⟨(gf x:Int),((e3 f q3 (eZ (dF x) dW)).2:Int)⟩]) (l4 (dF x) dW):=by
 rw[head_cons ag] at h ⊢;exact h.next
theorem Tz{s:c9}{aI:List aj}(bD:(s.findIdx? λx=>x.1==aI)=none)(gG:(names s).Nodup)(bW:wh s)(dL:aI≠[])(a':∀t∈aI,rH t):wh (s++(aI,[])::[])/\(names (s++(aI,[])::[])).Nodup:=by
 have fX:=LX bD;refine⟨λx ag=>?_,?_⟩
 . rcases List.mem_append.1 ag with ag|ag
   . exact bW x ag
   . simp only[List.mem_singleton] at ag;subst ag;exact⟨dL,a'⟩
 . unfold names;rw[List.map_append,List.nodup_append];refine⟨gG,by simp,λa ay b ab=>?_⟩;simp only[List.map_cons,List.map_nil,List.mem_singleton] at ab;subst ab;exact λe=>fX (by rw[<-e];exact ay)
theorem Cy{dW:List aj}{x:aj}{f:Nat}(ag:dW[0]?=some x)(a':gv dW/\(∀t∈dW,t≠[])/\Deep (f+1) dW):
 gv (eZ (dF x) dW)/\eZ (dF x) dW≠[]/\Deep f (eZ (dF x) dW)/\jh (eZ (dF x) dW)+(eZ (dF x) dW).length+jh (l4 (dF x) dW)<=jh dW/\(eZ (dF x) dW).length+(l4 (dF x) dW).length=dW.length/\1<=(eZ (dF x) dW).length:=by
 obtain⟨aV,aR,hd⟩:=a';have rM:=List.mem_of_getElem? ag;have kA:=aR x rM;have hp:dF x=en (gf x):=(yI kA ((yJ kA).1 (aV.oY x rM)).1).2.symm;have AH:=((aV.oY x rM).split kA).1
 have h1:1<=(eZ (dF x) dW).length:=by
  rw[head_cons ag]
  unfold eZ
  rw[List.takeWhile_cons,if_pos (Ap x)];simp
 refine⟨?_,?_,λt a_=>?_,Tt (by rw[hp];exact SF _) _,Tu _ _,h1⟩
 . rw[head_cons ag] at aV ⊢;exact SP aV kA
 . intro e;rw[e] at h1;simp at h1
 . have hm:=hd _ (SO a_);rw[hp] at hm;have ah:=wb (c:=gf x) AH t;unfold gf at hm ah;rw[ah] at hm;simp only[List.length_cons] at hm;omega
theorem Mp{f:Nat}{dW:List aj}{x:aj}(hd:Deep f dW)(ag:x∈dW)(aR:x≠[]):∃f2,f=f2+1:=by
 have:=hd x ag;rw[xp aR] at this;simp only[List.length_cons] at this;exact⟨f-1,by omega⟩
theorem HV{l:List aj}{x:aj}(h:x∈l):x.length<=jh l:=by
 induction l with
 | nil=>simp at h
 | cons a l cc =>
  rw[Mn];rcases List.mem_cons.1 h with rfl|h
  . omega
  . have:=cc h;omega
theorem TA{l:List aj}{x:aj}(ag:l[0]?=some x)(h:x=[]):fG l=l.drop 1/\jX l=true:=by
 rw[head_cons ag,h];simp[fG,jX]
theorem TB{l:List aj}{x:aj}(ag:l[0]?=some x)(h:x≠[]):fG l=l/\jX l=false:=by
 have bl:=head_cons ag
 cases x with
 | nil=>exact absurd rfl h
 | cons a x =>
  constructor
  . rw[bl];rfl
  . rw[bl];simp[jX]
theorem TC(s xs:c9)(r:List aj)(es rG:List cd):l6 (s++(r,es)::xs)=l6 (s++(r,rG)::xs):=acY (by simp[names])
structure q4(p:aj)(l:List aj)(k:Nat)(b:List aj):Prop where
 is:b=(l.take k).map λt=>t.drop p.length
 all:∀t∈l.take k,p.isPrefixOf t=true
theorem q4.start(p:aj)(l:List aj):q4 p l 0 []:=⟨by simp,by simp⟩
theorem q4.next{p:aj}{l:List aj}{k:Nat}{b:List aj}{t:aj}(h:q4 p l k b)(a_:l[k]?=some t)(hp:p.isPrefixOf t=true):q4 p l (k+1) (b++[t.drop p.length]):=by
 refine⟨by rw[h.is,List.take_add_one,a_];simp,λu hu=>?_⟩;rw[List.take_add_one,a_] at hu;simp only[Option.toList_some,List.mem_append,List.mem_singleton] at hu;rcases hu with hu|rfl
 . exact h.all u hu
 . exact hp
theorem q4.Mq{p:aj}{l:List aj}{k m:Nat}{b:List aj}{t:aj}(h:q4 p l k b)(hm:p.length=m)(a_:l[k]?=some t)(hp:p.isPrefixOf t=true):q4 p l (k+1) (b++[t.drop m]):=by rw[<-hm];exact h.next a_ hp
theorem adl{α:Type}{p:α->Bool}{l:List α}{k:Nat}(h1:∀t∈l.take k,p t=true)(ah:∀t,l[k]?=some t->p t=false):l.takeWhile p=l.take k/\l.dropWhile p=l.drop k:=by
 have e:l=l.take k++l.drop k:=(List.take_append_drop k l).symm
 have aB:(l.drop k).takeWhile p=[]/\(l.drop k).dropWhile p=l.drop k:=by
  cases hd:l.drop k with
  | nil=>simp
  | cons t r =>
   have:l[k]?=some t:=by rw[<-List.head?_drop,hd];rfl
   have:=ah t this
   simp[List.takeWhile_cons,List.dropWhile_cons,this]
 constructor
 . conv=>lhs;rw[e]
   rw[List.takeWhile_append_of_pos h1,aB.1,List.append_nil]
 . conv=>lhs;rw[e]
   rw[List.dropWhile_append_of_pos h1,aB.2]
theorem q4.fin{p:aj}{l:List aj}{k:Nat}{b:List aj}(h:q4 p l k b)(he:l.length<=k\/∃t,l[k]?=some t/\p.isPrefixOf t=false):b=eZ p l/\l.drop k=l4 p l:=by
 have:=adl h.all (λt a_=>by
  rcases he with he|⟨u,hu,hp⟩
  . rw[List.getElem?_eq_none he] at a_;cases a_
  . rw[hu] at a_;cases a_;exact hp)
 unfold eZ l4;rw[this.1,this.2];exact⟨h.is,rfl⟩
theorem Mr{p t:aj}{n:Nat}(h:p.isPrefixOf t=true)(aR:p.length=n):n<=t.length:=by
 have:=congrArg List.length (Cl h);rw[List.length_append] at this;omega
theorem TD{s:aj}(aT:s≠[]):(dF s).length=l3 s:=by
 have:=B_ s aT;unfold dF l3;rw[List.length_take];omega
end Go.ak
namespace Go.aG
open Go
def oa(w:World)(F:Nat->Prop)(t:List c')(xs:ak.c9):Prop:=c3 (λr x=>r.fin=ak.jX x.1/\aq ak.e2 w F r.e.val x.2) t xs
def TE(c7 ar x:Nat):Nat->Prop:=λb=>c7<=b/\b<ar/\b+1≠x
def TF(c7 ar x y:Nat):Nat->Prop:=λb=>c7<=b/\b<ar/\b+1≠x/\b+1≠y
theorem oa.keep{M:Nat->Prop}{w ao:World}{F:Nat->Prop}{t:List c'}{xs:ak.c9}(h:oa w F t xs)(hm:Mod M w ao)(bs:∀b,F b->¬ M b):oa ao F t xs:=c3.imp (λr n ⟨h1,ah⟩=>⟨h1,ah.keep hm bs⟩) h
theorem oa.mono{w:World}{F F':Nat->Prop}{t:List c'}{xs:ak.c9}(h:oa w F t xs)(bs:∀b,F b->F' b):oa w F' t xs:=c3.imp (λr n ⟨h1,ah⟩=>⟨h1,ah.mono bs⟩) h
theorem oa.len{w:World}{F:Nat->Prop}{t:List c'}{xs:ak.c9}(h:oa w F t xs):t.length=xs.length:=(c3.get h).1
def TG(w:World)(c7 ar x y:Nat)(t:List c')(xs:ak.c9):Prop:=oa w (TF c7 ar x y) t xs
theorem TG.out{w:World}{c7 ar HW x y:Nat}{t:List c'}{xs:ak.c9}(h:TG w c7 ar x y t xs)(hF:ar<=HW):oa w (TE c7 HW y) t xs:=oa.mono h λb ab=>by unfold TF at ab;unfold TE;omega
theorem adm{w:World}{b:Nat}{m sU:List (aj×Int)}(h:nf aD fD w b m)(e:m=sU):nf aD fD w b sU:=e▸h
theorem bA.TH{P:Program}{E:Env}{C:World->Prop}{d:Option Tmp}{ty:TypeId}{pos:String}{af:Array Edge}{gd:Option (Nat×Bool)}{α β:Type}[DecidableEq α]{key:α->Value}{val:β->Value}{t e4 jo:TypeId}{x y:Operand}{b:Nat}{m:List (α×β)}{a:α}{z:Value}{u:β}(hk:KeyOk P e4 key)(a_:P.underlying t=some (.map e4 jo))(cO:∀w,(zeroValue jo).run P w=.ok z w)(ag:aO E x=some (.map (some b)))(aE:aO E y=some (key a))(hm:∀w,C w->nf key val w b m)(hu:gw m a=some u):
 bA P ⟨d,.lookup t x y true,ty,pos,af,gd⟩ E C (.tuple #[val u,.bool true]):=by
 have h:=bA.S4 (d:=d) (ty:=ty) (pos:=pos) (af:=af) (gd:=gd) (g:=true) (n:=0) (by_:=0) hk a_ cO ag aE hm;rw[hu] at h;exact h
theorem bA.TI{P:Program}{E:Env}{C:World->Prop}{d:Option Tmp}{ty:TypeId}{pos:String}{af:Array Edge}{gd:Option (Nat×Bool)}{α β:Type}[DecidableEq α]{key:α->Value}{val:β->Value}{t e4 jo:TypeId}{x y:Operand}{b:Nat}{m:List (α×β)}{a:α}{z:Value}(hk:KeyOk P e4 key)(a_:P.underlying t=some (.map e4 jo))(cO:∀w,(zeroValue jo).run P w=.ok z w)(ag:aO E x=some (.map (some b)))(aE:aO E y=some (key a))(hm:∀w,C w->nf key val w b m)(hu:gw m a=none):
 bA P ⟨d,.lookup t x y true,ty,pos,af,gd⟩ E C (.tuple #[z,.bool false]):=by
 have h:=bA.S4 (d:=d) (ty:=ty) (pos:=pos) (af:=af) (gd:=gd) (g:=true) (n:=0) (by_:=0) hk a_ cO ag aE hm;rw[hu] at h;exact h
end Go.aG
namespace Go.ak
open Go.aG
theorem TJ:∀rs:List Nat,(sj rs).length<=4*rs.length
 | []=>by simp[sj]
 | c::rs=>by
  have h:=TJ rs
  have bH:=xx c
  have e:sj (c::rs)=en c++sj rs:=rfl
  rw[e,List.length_append,List.length_cons];omega
theorem TK{w:aj}(h:word w=true):w.length<=48:=by
 unfold word at h;rw[Bool.and_eq_true,decide_eq_true_eq,decide_eq_true_eq] at h
 have bD:ix w:=by
  intro hm
  unfold iL at h;rw[if_pos hm] at h;omega
 have bl:=SH bD;have he:=TJ (hg w);rw[(HE w bD).1] at he;omega
theorem adn{l:List aj}{m:Nat}(h:∀x∈l,x.length<=m):jh l<=l.length*m:=by
 induction l with
 | nil=>simp[jh]
 | cons a l cc =>
  rw[Mn,List.length_cons,Nat.add_mul];have:=h a dh;have:=cc λx ag=>h x (by simp[ag])
  omega
theorem EK{l:List aj}(h:e6 l=0):l.length<=60/\jh l<=2880:=by
 obtain⟨h1,ah,_⟩:=wc h;have:=adn (l:=l) (m:=48) λx ag=>TK (ah x ag)
 omega
def o1(words:List aj):c9:=if words=[] then[([],[])] else s5 words
def h'(words:List aj):List cy:=if e6 words=0 then fV (o1 words) else[]
theorem ado{words:List aj}(h:e6 words≠0):h' words=[]:=by unfold h';rw[if_neg h]
theorem tZ{words:List aj}(h:e6 words=0):h' words=fV (o1 words):=by unfold h';rw[if_pos h]
theorem HX{words:List aj}(h:words=[]):h' words=[(false,[])]:=by subst h;decide
theorem TL{words:List aj}(h:e6 words=0):(s5 words).length<=2881:=by
 have h1:=yQ 13 [] words (s8 h).1;have ah:=(EK h).2;unfold s5;simp only[List.length_nil] at h1;omega
theorem adp{α β:Type}{R:α->β->Prop}{a:List α}{b:List β}(h:c3 R a b):a.length=b.length:=(c3.get h).1
theorem Ms:∀(n:Nat) (l:List aj),l.length<=n->(ha l).length<=l.length
 | _,[],_=>by simp[Ar]
 | 0,_::_,h=>by simp at h
 | n+1,s::r,h=>by
  rw[Cj]
  have hm:=Aq s r
  have:=Ms n (l4 (dF s) (s::r)) (by simp only[List.length_cons] at h;omega)
  simp only[List.length_cons];omega
theorem adq(p:aj)(l:List aj):(eZ p l).length<=l.length:=by have:=Tu p l;omega
theorem TM:∀(n:Nat) (l:List aj),l.length<=n->∀g∈ha l,g.2.length<=l.length
 | _,[],_,g,aV=>by simp[Ar] at aV
 | 0,_::_,h,_,_=>by simp at h
 | n+1,s::r,h,g,aV=>by
  rw[Cj] at aV
  have hm:=Aq s r
  rcases List.mem_cons.1 aV with rfl|aV
  . exact adq _ _
  . have:=TM n (l4 (dF s) (s::r)) (by simp only[List.length_cons] at h;omega) g aV
    simp only[List.length_cons];omega
theorem TN{add:c9->List aj->c9×Nat}{L:Nat}:∀(gs:List (Nat×List aj)) (s:c9),(∀g∈gs,∀s,(∀y∈s,y.1.length<=L)->∀y∈(add s g.2).1,y.1.length<=L)->(∀y∈s,y.1.length<=L)->∀y∈(lM add s gs).1,y.1.length<=L
 | [],s,_,aT=>aT
 | g::gs,s,h,aT=>by
  show ∀y∈(lM add (add s g.2).1 gs).1,_
  exact TN gs _ (λfz s6=>h fz (by simp[s6])) (h g dh s aT)
theorem EL{L:Nat}:∀(f:Nat) (s:c9) (aI:List aj),(∀y∈s,y.1.length<=L)->aI.length<=L->∀y∈(e3 f s aI).1,y.1.length<=L
 | 0,s,aI,aT,_=>aT
 | f+1,s,aI,aT,a'=>by
  unfold e3
  cases ar:s.findIdx? λx=>x.1==aI with
  | some i=>exact aT
  | none =>
   have h1:=TN (add:=e3 f) (L:=L) (ha (fG aI)) (s++[(aI,[])]) (λg iM jT Ac=>EL f jT g.2 Ac (by
    have:=TM _ (fG aI) (Nat.le_refl _) g iM
    have:=HS aI
    omega)) (λy aE=>by
     rcases List.mem_append.1 aE with aE|aE
     . exact aT y aE
     . simp only[List.mem_singleton] at aE;subst aE;exact a')
   intro y aE
   rcases List.mem_or_eq_of_mem_set aE with aE|rfl
   . exact h1 y aE
   . exact a'
theorem Cz{words:List aj}(h:e6 words=0):tX (h' words) (o1 words) words:=by
 rw[tZ h];unfold o1;split
 . rename_i he;subst he;exact tX.empty
 . rename_i he;have hw:=Cm (s8 h).2 (s8 h).1 he;have bl:=TL h;refine tX.of hw aa λy aE=>?_
   have al:=adp (hw.node y aE).we;have aV:=Ms _ (fG y.1) (Nat.le_refl _);have hd:=HS y.1;have EM:y.1.length<=60:=EL 13 [] words dh (EK h).1 y aE;omega
end Go.ak
namespace Go.aG
open Go
theorem TO{w:World}{F:Nat->Prop}:∀{t:List c'} {xs:ak.c9},oa w F t xs->jY w F t (fV xs)
 | _,_,.nil=>.nil
 | _,_,.cons h r=>.cons h (TO r)
end Go.aG
namespace Go.ak
open Go.aG
def t_(c:Nat):Nat:=if c % 2=1 then(c / 2) ^^^ 3988292384 else c / 2
def q5:Nat->Nat->Nat
 | 0,c=>c
 | k+1,c=>t_ (q5 k c)
def u7(c b:Nat):Nat:=q5 8 (c ^^^ b)
def rN(c:Nat)(l:List UInt8):Nat:=l.foldl (λc x=>u7 c x.toNat) c
def AI(c:Nat)(l:List UInt8):Nat:=4294967295-rN (4294967295-c) l
def kB(l:List UInt8):Nat:=AI 0 l
theorem adr{c:Nat}(h:c<4294967296):t_ c<4294967296:=by
 unfold t_;split
 . exact xy aa aa
 . omega
theorem HY{c:Nat}(h:c<4294967296):∀k,q5 k c<4294967296
 | 0=>h
 | k+1=>adr (HY h k)
theorem AJ{c b:Nat}(h:c<4294967296)(ab:b<256):u7 c b<4294967296:=HY (xy h aa) 8
theorem art(c:Nat)(b:UInt8)(h:c<4294967296):u7 c b.toNat<4294967296:=AJ h b.toNat_lt
theorem HZ:∀(l:List UInt8) {c:Nat},c<4294967296->rN c l<4294967296
 | [],c,h=>h
 | x::l,c,h=>HZ l (AJ h x.toNat_lt)
theorem TP{c:Nat}{l:List UInt8}{k:Nat}{x:UInt8}(ag:l[k]?=some x):rN c (l.take (k+1))=u7 (rN c (l.take k)) x.toNat:=by
 unfold rN;rw[List.take_add_one,ag,List.foldl_append];rfl
theorem CA(c:Nat)(l:List UInt8):AI c l<4294967296:=by unfold AI;omega
theorem TQ{c fp:Nat}{k:Nat}(h:c=q5 k fp)(h1:c % 2=1):(c / 2) ^^^ 3988292384=q5 (k+1) fp:=by
 show _=t_ (q5 k fp);rw[<-h];unfold t_;rw[if_pos h1]
theorem TR{c fp:Nat}{k:Nat}(h:c=q5 k fp)(h1:¬ c % 2=1):c / 2=q5 (k+1) fp:=by
 show _=t_ (q5 k fp);rw[<-h];unfold t_;rw[if_neg h1]
theorem ads(a b:Nat):(a ^^^ b) / 2=(a / 2) ^^^ (b / 2):=by
 have:=Nat.shiftRight_xor_distrib (a:=a) (b:=b) (i:=1);simpa[Nat.shiftRight_eq_div_pow] using this
theorem adt(a b:Nat):(a ^^^ b) % 2=(a % 2+b % 2) % 2:=by
 have:=Nat.xor_mod_two_pow (a:=a) (b:=b) (n:=1);simp only[Nat.pow_one] at this;rw[this];rcases Nat.mod_two_eq_zero_or_one a with h|h<;>rcases Nat.mod_two_eq_zero_or_one b with gL|gL<;>rw[h,gL]<;>rfl
def sm(fp b:Nat)(k c:Nat):Prop:=q5 k (fp ^^^ b)=c ^^^ (b / 2 ^ k)/\c<4294967296
theorem sm.start{fp b:Nat}(h:fp<4294967296):sm fp b 0 fp:=⟨by simp[q5],h⟩
theorem TS{fp b k c:Nat}(h:sm fp b k c)(ab:b<256):q5 (k+1) (fp ^^^ b)=(if c % 2≠b / 2 ^ k % 2 then(c / 2) ^^^ 3988292384 else c / 2) ^^^ (b / 2 ^ (k+1)):=by
 show t_ (q5 k (fp ^^^ b))=_;rw[h.1];unfold t_;rw[adt,ads,Nat.pow_succ,<-Nat.div_div_eq_div_mul];by_cases al:c % 2=b / 2 ^ k % 2
 . rw[if_neg aa,if_neg aa]
 . rw[if_pos aa,if_pos al,Nat.xor_assoc,Nat.xor_comm (b / 2 ^ k / 2),<-Nat.xor_assoc]
theorem sm.one{fp b k c:Nat}(h:sm fp b k c)(ab:b<256)(al:c % 2≠b / 2 ^ k % 2):sm fp b (k+1) ((c / 2) ^^^ 3988292384):=⟨by rw[TS h ab,if_pos al],xy (by have:=h.2;omega) aa⟩
theorem sm.nil{fp b k c:Nat}(h:sm fp b k c)(ab:b<256)(al:c % 2=b / 2 ^ k % 2):sm fp b (k+1) (c / 2):=⟨by rw[TS h ab,if_neg aa],by have:=h.2;omega⟩
theorem sm.fin{fp b c:Nat}(h:sm fp b 8 c)(ab:b<256):c=u7 fp b:=by
 have:=h.1;rw[Nat.div_eq_of_lt (by omega:b<2 ^ 8),Nat.xor_zero] at this;exact this.symm
def fk(n:Int)(size:Nat):List UInt8:=(List.range size).map λi=>gC (IntKind.u64.wrap n / 2 ^ (8*(size-1-i)))
theorem im(n:Int)(size:Nat):(fk n size).length=size:=by simp[fk]
theorem TT{n:Int}{size i:Nat}{b out:List UInt8}{x:UInt8}(h:out=b++(fk n size).take i)(ar:i<size)(ag:x=gC (IntKind.u64.wrap n / 2 ^ (8*(size-1-i)))):out++[x]=b++(fk n size).take (i+1):=by
 rw[h,List.append_assoc];congr 1
 rw[List.take_add_one];congr 1
 unfold fk;rw[List.getElem?_map,List.getElem?_range ar,ag];rfl
def kV(l:List UInt8):Nat:=l.foldl (λn x=>n*256+x.toNat) 0
theorem TU:∀(l:List UInt8) (n:Nat),l.foldl (λn x=>n*256+x.toNat) n<(n+1)*256 ^ l.length
 | [],n=>by simp
 | x::l,n=>by
  have:=TU l (n*256+x.toNat)
  have ag:=x.toNat_lt
  rw[List.foldl_cons,List.length_cons,Nat.pow_succ]
  calc _<(n*256+x.toNat+1)*256 ^ l.length:=this
   _<=((n+1)*256)*256 ^ l.length:=Nat.mul_le_mul_right _ aa
   _=_:=by rw[Nat.mul_assoc,Nat.mul_comm 256]
theorem adu{l:List UInt8}{k:Nat}{x:UInt8}(ag:l[k]?=some x):kV (l.take (k+1))=kV (l.take k)*256+x.toNat:=by
 unfold kV;rw[List.take_add_one,ag,List.foldl_append];rfl
def mK(b:List UInt8)(at_ size:Int):Bool:=decide (1<=size/\size<=8/\0<=at_/\at_<=b.length/\size<=b.length-at_)
def j6(b:List UInt8)(at_ size:Int):Int:=if mK b at_ size=true then(kV ((b.drop at_.toNat).take size.toNat):Int) else 0
theorem H0{b:List UInt8}{at_ size:Int}(h:¬ (1<=size/\size<=8/\0<=at_/\at_<=b.length/\size<=b.length-at_)):(0:Int)=j6 b at_ size/\false=mK b at_ size:=by
 have:mK b at_ size=false:=decide_eq_false h
 unfold j6;rw[this];exact⟨rfl,rfl⟩
theorem H2{b:List UInt8}{at_ size:Int}(h:1<=size/\size<=8/\0<=at_/\at_<=b.length/\size<=b.length-at_):(kV ((b.drop at_.toNat).take size.toNat):Int)=j6 b at_ size/\true=mK b at_ size:=by
 have:mK b at_ size=true:=decide_eq_true h
 unfold j6;rw[this];exact⟨rfl,rfl⟩
theorem Mt{l:List UInt8}:kV l<256 ^ l.length:=by
 have:=TU l 0;unfold kV;simpa using this
def l8(e:cd):List UInt8:=fk e.rune 4++fk e.to 2
def kC(x:cy):List UInt8:=fk (if x.1=true then 1 else 0) 1++fk x.2.length 2++x.2.flatMap l8
def hJ(N:List cy):List UInt8:=[73,78,75,49]++fk N.length 2++N.flatMap kC
def xz(b:List UInt8):List UInt8:=b++fk (kB b) 4
def kW(N:List cy):List UInt8:=xz (hJ N)
end Go.ak
namespace Go.ak
open Go.aG
theorem adv{n i:Int}{size:Nat}{b out:List UInt8}(h:out=b++(fk n size).take ((size:Int)-1-i).toNat)(bK:0<=i)(ar:i<(size:Int)):out++[gC (IntKind.u64.wrap n / 2 ^ (8*i).toNat)]=b++(fk n size).take ((size:Int)-1-(i-1)).toNat:=by
 have:=TT (x:=gC (IntKind.u64.wrap n / 2 ^ (8*i).toNat)) h aa (by congr 3;omega);rw[this];congr 2;omega
theorem Mu{l:List UInt8}{i:Nat}(h:i<=4):kV (l.take i)<4294967296:=by
 have h1:=Mt (l:=l.take i);have ah:(l.take i).length<=4:=(by rw[List.length_take];omega);have aB:256 ^ (l.take i).length<=256 ^ 4:=Nat.pow_le_pow_right aa ah;omega
theorem TV{at_:Int}{b:List UInt8}{m i:Nat}{x:UInt8}(h:m=kV ((b.drop at_.toNat).take i))(ag:b[(at_+(i:Int)).toNat]?=some x)(bK:0<=at_):m*256+x.toNat=kV ((b.drop at_.toNat).take (i+1)):=by
 rw[h];symm;refine adu ?_;rw[List.getElem?_drop,<-ag];congr 1;omega
theorem Mv(b:List UInt8)(at_:Int)(size:Nat):0<=j6 b at_ size:=by unfold j6;split<;>omega
end Go.ak
namespace Go.ak
open Go.aG
theorem adw{g:List cy}{i:Nat}(h:i<g.length):g[i]?=some (nodeAt g (i:Int)):=by
 rw[Md aa (List.getElem?_eq_getElem h)];exact List.getElem?_eq_getElem h
theorem TW(g:List cy):[73,78,75,49]++fk (g.length:Int) 2++(g.drop 0).flatMap kC=hJ g:=rfl
theorem EN{g:List cy}{B out:List UInt8}{i:Nat}{x:cy}{f:Int}(h:out++(g.drop i).flatMap kC=B)(ag:g[i]?=some x)(bD:f=if x.1=true then 1 else 0):out++fk f 1++fk (x.2.length:Int) 2++((x.2.drop 0).flatMap l8++(g.drop (i+1)).flatMap kC)=B:=by
 rw[<-h,wm ag,List.flatMap_cons,bD];unfold kC;simp
theorem EO{B out:List UInt8}{es:List cd}{R:List UInt8}{k:Nat}{e:cd}(h:out++((es.drop k).flatMap l8++R)=B)(ag:es[k]?=some e):out++fk e.rune 4++fk e.to 2++((es.drop (k+1)).flatMap l8++R)=B:=by
 rw[<-h,wm ag,List.flatMap_cons];unfold l8;simp
theorem H3{B out:List UInt8}{es:List cd}{R:List UInt8}{k:Nat}(h:out++((es.drop k).flatMap l8++R)=B)(hk:es.length<=k):out++R=B:=by
 rw[List.drop_of_length_le hk] at h;simpa using h
theorem H4{B out R:List UInt8}(h:out++R=B):out.length<=B.length:=by rw[<-h,List.length_append];omega
theorem H5{B out R:List UInt8}{es:List cd}{k:Nat}{e:cd}(h:out++((es.drop k).flatMap l8++R)=B)(ag:es[k]?=some e):out.length+6<=B.length:=by
 have:=H4 (EO h ag);simp only[List.length_append,im] at this;omega
theorem Mw{g:List cy}{B out:List UInt8}{i:Nat}{x:cy}(h:out++(g.drop i).flatMap kC=B)(ag:g[i]?=some x):out.length+3<=B.length:=by
 have:=H4 (EN (f:=if x.1=true then 1 else 0) h ag rfl);simp only[List.length_append,im] at this;omega
theorem TX{g:List cy}{out:List UInt8}{i:Nat}(h:out++(g.drop i).flatMap kC=hJ g)(ar:g.length<=i):out=hJ g:=by
 rw[List.drop_of_length_le ar] at h;simpa using h
def yR(g:List cy):List UInt8:=if g.isEmpty=true then[] else kW g
theorem TY{g:List cy}(h:g=[]):yR g=[]:=by subst h;rfl
theorem Mx{g:List cy}(h:g≠[]):yR g=kW g:=by
 unfold yR;rw[if_neg];cases g<;>simp at *
def H6(g:List cy):Int:=if g.isEmpty=true then 2 else 0
theorem TZ{g:List cy}(h:g≠[]):(0:Int)=H6 g:=by
 unfold H6;rw[if_neg];cases g<;>simp at *
def lx(words:List aj):List UInt8:=if e6 words=0 then kW (h' words) else[]
theorem T0{words:List aj}(h:e6 words≠0):([]:List UInt8)=lx words:=by unfold lx;rw[if_neg h]
theorem H7{g:c9}{i:Nat}{x:List aj×List cd}(h:g[i]?=some x):(fV g)[i]?=some (jX x.1,x.2):=by unfold fV;rw[List.getElem?_map,h];rfl
end Go.ak
namespace Go.ak
open Go.aG
theorem adx(es:List cd):(es.flatMap l8).length=6*es.length:=by
 induction es with
 | nil=>rfl
 | cons e es cc=>rw[List.flatMap_cons,List.length_append,cc,List.length_cons];unfold l8;rw[List.length_append,im,im];omega
def CB(N:List cy):Nat:=(N.map λx=>x.2.length).sum
theorem ady(N:List cy):(N.flatMap kC).length=3*N.length+6*CB N:=by
 unfold CB
 induction N with
 | nil=>rfl
 | cons x N cc =>
  rw[List.flatMap_cons,List.length_append,cc,List.length_cons,List.map_cons,List.sum_cons];unfold kC;rw[List.length_append,List.length_append,im,im,adx];omega
theorem My(N:List cy):(hJ N).length=6+3*N.length+6*CB N:=by
 unfold hJ;rw[List.length_append,List.length_append,im,ady];simp only[List.length_cons,List.length_nil];omega
theorem n4(N:List cy):(kW N).length=10+3*N.length+6*CB N:=by
 unfold kW xz;rw[List.length_append,im,My];omega
theorem adz{N:List cy}{m:Nat}(h:∀x∈N,x.2.length<=m):CB N<=N.length*m:=by
 unfold CB
 induction N with
 | nil=>simp
 | cons x N cc =>
  have h1:=h x dh;have ah:=cc λy aE=>h y (by simp[aE])
  rw[List.map_cons,List.sum_cons,List.length_cons,Nat.succ_mul];omega
end Go.ak
namespace Go.ak
open Go.aG
theorem T1{g:c9}{out:List UInt8}{i:Nat}{t':List aj×List cd}(h:out++((fV g).drop i).flatMap kC=hJ (fV g))(ag:g[i]?=some t')(ab:(nodeAt (fV g) (i:Int)).1=true):out++fk 1 1++fk (t'.2.length:Int) 2++((t'.2.drop 0).flatMap l8++((fV g).drop (i+1)).flatMap kC)=hJ (fV g):=by
 rw[AE ag] at ab;exact EN (x:=(jX t'.1,t'.2)) h (H7 ag) (by rw[if_pos ab])
theorem T2{g:c9}{out:List UInt8}{i:Nat}{t':List aj×List cd}(h:out++((fV g).drop i).flatMap kC=hJ (fV g))(ag:g[i]?=some t')(ab:(nodeAt (fV g) (i:Int)).1=false):out++fk 0 1++fk (t'.2.length:Int) 2++((t'.2.drop 0).flatMap l8++((fV g).drop (i+1)).flatMap kC)=hJ (fV g):=by
 rw[AE ag] at ab;have yB:jX t'.1=false:=ab;exact EN (x:=(jX t'.1,t'.2)) h (H7 ag) (by rw[if_neg (by simp[yB])])
end Go.ak
namespace Go.aG
open Go Go.ak
def jz{R:Nat->Prop}(t:List c')(xs:c9):dr R:=⟨λF w=>oa w F t xs,λh hm bs _=>oa.keep h hm bs⟩
abbrev CC:Nat->Prop:=λ_=>False
def k7(adA nG kX:TypeId)(jK:Nat)(s:c9)(bn:List c'):dr CC:=
 nF λx:Nat×Nat×Value=>bh [aw jK [ptr x.1 0,.map (some x.2.1)] adA,aw x.1 [x.2.2] nG,lv aD fD x.2.1 (l6 s),aP fx kX 2 x.2.2 bn]
theorem u9{R:Nat->Prop}{A B:dr R}{F:Nat->Prop}{w:World}(h:(bh [A,B]).p F w):∃fs bz,A.p fs w/\B.p bz w/\(∀b,fs b->F b)/\(∀b,bz b->F b):=by
 obtain⟨fi,h1,ah,aB⟩:=h;exact⟨fi 0,fi 1,h1 0 A rfl,h1 1 B rfl,λb ab=>(ah 0 b ab).1.1,λb ab=>(ah 1 b ab).1.1⟩
theorem H8{t t2:List c'}{xs gU:c9}{F:Nat->Prop}{w:World}{R:Nat->Prop}(h:(bh (R:=R) [jz t xs,jz t2 gU]).p F w):(jz (R:=R) (t++t2) (xs++gU)).p F w:=by
 obtain⟨fs,bz,h1,ah,aB,bH⟩:=u9 h;exact c3.app (oa.mono h1 aB) (oa.mono ah bH)
theorem td{α:Type}{enc:α->List Value}{e:TypeId}{sz:Nat}{v:Value}{l:List α}{F:Nat->Prop}{w:World}{R:Nat->Prop}(h:(aP (R:=R) enc e sz v l).p F w):aq enc w F v l:=by
 obtain⟨g,h1,ah⟩:=h;refine h1.cj.mono λb ab=>?_
 rcases h1 with ⟨_,_,bH⟩|⟨sf,cap,cur,bK,_⟩
 . unfold dq at ab;omega
 . exact ah b (by unfold dq at ab;omega)
theorem T3{α:Type}{enc:α->List Value}{v:Value}{l:List α}{F:Nat->Prop}{w:World}{R:Nat->Prop}(h:(fc (R:=R) enc [(v,l)]).p F w):aq enc w (λb=>F b\/R b) v l:=h (v,l) (List.mem_singleton_self _)
theorem EP{α:Type}{enc:α->List Value}{v:Value}{l:List α}{F:Nat->Prop}{w:World}(h:(fc (R:=CC) enc [(v,l)]).p F w):aq enc w F v l:=(T3 h).mono λb ab=>ab.resolve_right id
theorem H9{R:Nat->Prop}{A:dr R}{t:List c'}{xs:c9}{F:Nat->Prop}{w:World}(h:(bh [A,jz t xs]).p F w):t.length=xs.length:=by
 obtain⟨fs,bz,h1,ah,aB,bH⟩:=u9 h;exact oa.len ah
theorem T4{e:TypeId}{v:Value}{es:List cd}{t:List c'}{xs:c9}{x:List aj}{r:c'}{F:Nat->Prop}{w:World}(cK:v=r.e.val)(bD:r.fin=jX x){R:Nat->Prop}(h:(bh (R:=R) [aP e2 e 2 v es,jz t xs]).p F w):(jz (R:=R) (r::t) ((x,es)::xs)).p F w:=by
 obtain⟨fs,bz,h1,ah,aB,bH⟩:=u9 h;exact .cons ⟨bD,cK▸(td h1).mono aB⟩ (oa.mono ah bH)
end Go.aG
namespace Go.aG
open Go Go.ak
theorem au.dp{w0 w:World}{ez:Nat}{nG kX:TypeId}{sn:Value}{t:List c'}{xs:c9}(h:au CC CC w0 w [aw ez [sn] nG,aP fx kX 2 sn t,jz t xs])(dL:xs≠[]):hy 0 w w0.heap.size w.heap.size (ptr ez 0) (fV xs):=by
 obtain⟨F,h1,ah,_⟩:=h.act (i:=0) rfl;have aT:=h.ac' (i:=1) rfl;obtain⟨ER,aB,bH,_⟩:=h.act (i:=2) rfl;have ab:=ah ez h1.2;exact .inr ⟨ez,sn,t,rfl,by simpa[fV] using dL,⟨ab.1.1.resolve_left id,ab.2,h1.1.row⟩,aT,TO (oa.mono aB λb ab=>⟨(bH b ab).1.1.resolve_left id,(bH b ab).2⟩)⟩
theorem au.iq{w0 w:World}{ez:Nat}{nG:TypeId}{sn:Value}(h:au CC CC w0 w [aw ez [sn] nG,fc fx [(sn,[c'.mk false (cL.mk none 0 0)])]]):hy 0 w w0.heap.size w.heap.size (ptr ez 0) [(false,[])]:=by
 obtain⟨F,h1,ah,_⟩:=h.act (i:=0) rfl;have aT:=h.HP (i:=1) (k:=0) rfl rfl;have ab:=ah ez h1.2;exact .inr ⟨ez,sn,_,rfl,by simp,⟨ab.1.1.resolve_left id,ab.2,h1.1.row⟩,aT,.cons ⟨rfl,aq.nil⟩ .nil⟩
theorem adB{bV F:Nat->Prop}{w0:World}(h:∀b,F b->((False\/w0.heap.size<=b)/\¬ False)/\bV b):∀b,dq 0 w0.heap.size b->¬ F b:=λb ab bD=>by
 have:=(h b bD).1.1.resolve_left id
 unfold dq at ab;omega
end Go.aG
namespace Go.ak
open Go.aG
theorem T5{l:List aj}(aT:oX l){i j:Nat}{x y:aj}(ag:l[i]?=some x)(aE:l[j]?=some y)(h:i<j):nC x y:=by
 obtain⟨h1,rfl⟩:=List.getElem?_eq_some_iff.1 ag;obtain⟨ah,rfl⟩:=List.getElem?_eq_some_iff.1 aE;exact List.pairwise_iff_getElem.1 aT _ _ h1 ah h
structure yS(l:List aj)(w:aj)(i j:Nat):Prop where
 c7:∀k x,k<i->l[k]?=some x->nC x w
 ar:∀k x,j<=k->l[k]?=some x->¬ nC x w
theorem adC{x w:aj}(h:nC x w):x≠w:=λe=>by subst e;exact lt_irrefl x h
theorem yS.yes{l:List aj}{w x:aj}{i:Nat}(ag:l[i]?=some x)(al:Lib.compareBytes x w=0):true=l.contains w:=by
 have:=cmp_eq al;subst this;exact(List.contains_iff_mem.2 (List.mem_of_getElem? ag)).symm
theorem yS.no{l:List aj}{w x:aj}{i j:Nat}(ab:yS l w i j)(aT:oX l)(mX:i=j)(ag:l[i]?=some x)(al:Lib.compareBytes x w≠0):false=l.contains w:=by
 subst mX
 cases h:l.contains w with
 | false=>rfl
 | true =>
  obtain⟨k,hk⟩:=List.mem_iff_getElem?.1 (List.contains_iff_mem.1 h);rcases Nat.lt_or_ge k i with bl|bl
  . exact absurd (ab.c7 k w bl hk) (lt_irrefl w)
  . rcases Nat.lt_or_ge i k with ah|ah
    . exact absurd (T5 aT ag hk ah) (ab.ar i x (Nat.le_refl _) ag)
    . have:k=i:=by omega
      subst this;rw[ag] at hk;cases hk;exact absurd (Ev _) al
theorem yS.none{l:List aj}{w:aj}{i j:Nat}(ab:yS l w i j)(ar:l.length<=i):false=l.contains w:=by
 cases h:l.contains w with
 | false=>rfl
 | true =>
  obtain⟨k,hk⟩:=List.mem_iff_getElem?.1 (List.contains_iff_mem.1 h);have:=(List.getElem?_eq_some_iff.1 hk).1;exact absurd (ab.c7 k w aa hk) (lt_irrefl w)
theorem yS.at{l:List aj}{w x:aj}{i j:Nat}{b:Bool}(ab:yS l w i j)(aT:oX l)(mX:i=j)(ag:l[i]?=some x)(h:b=(Lib.compareBytes x w==0)):b=l.contains w:=by
 rw[h];by_cases al:Lib.compareBytes x w=0
 . rw[<-yS.yes ag al];simp[al]
 . rw[<-ab.no aT mX ag al];simp[al]
theorem adD{l:List aj}(h:oX l):l.Nodup:=h.imp λh=>adC h
theorem adE{l:List aj}(h:e6 l=0):oX l:=(wc h).2.2
theorem adF{l:List aj}(h:qW l=false):l.length<=80:=by
 unfold qW at h;simp only[Bool.or_eq_false_iff,decide_eq_false_iff_not] at h;omega
end Go.ak
namespace Go.ak
open Go.aG
theorem wq(n:Nat):gC (n:Int)=hS n:=adb n
theorem adG{r:Int}(bK:0<=r)(h:r<128):[gC r]=en r.toNat:=by
 obtain⟨c,rfl⟩:=Int.eq_ofNat_of_zero_le bK;rw[Int.toNat_natCast];unfold en;rw[if_pos aa,wq]
theorem adH{r:Int}(bK:0<=r)(h:¬ r<128)(ah:r<2048):[gC (192+r / 64),gC (128+r % 64)]=en r.toNat:=by
 obtain⟨c,rfl⟩:=Int.eq_ofNat_of_zero_le bK;rw[Int.toNat_natCast];unfold en;rw[if_neg aa,if_pos aa,<-wq,<-wq];rfl
theorem adI{r:Int}(bK:0<=r)(h:¬ r<128)(ah:¬ r<2048)(aB:r<65536):[gC (224+r / 4096),gC (128+r / 64 % 64),gC (128+r % 64)]=en r.toNat:=by
 obtain⟨c,rfl⟩:=Int.eq_ofNat_of_zero_le bK;rw[Int.toNat_natCast];unfold en;rw[if_neg aa,if_neg aa,if_pos aa,<-wq,<-wq,<-wq];rfl
theorem adJ{r:Int}(bK:0<=r)(h:¬ r<128)(ah:¬ r<2048)(aB:¬ r<65536):[gC (240+r / 262144),gC (128+r / 4096 % 64),gC (128+r / 64 % 64),gC (128+r % 64)]=en r.toNat:=by
 obtain⟨c,rfl⟩:=Int.eq_ofNat_of_zero_le bK;rw[Int.toNat_natCast];unfold en;rw[if_neg aa,if_neg aa,if_neg aa,<-wq,<-wq,<-wq,<-wq];rfl
def AK(l:List Int):aj:=l.flatMap λr=>en r.toNat
def yT(l:List Int):aj:=if l.all pq=true then AK l else[]
theorem adK{l:List Int}{k:Nat}{x:Int}(ag:l[k]?=some x):AK (l.take (k+1))=AK (l.take k)++en x.toNat:=by
 unfold AK;rw[List.take_add_one,ag];simp
theorem T6{l:List Int}{k:Nat}{x:Int}(ag:l[k]?=some x)(h:pq x=false):([]:aj)=yT l/\false=l.all pq:=by
 have:l.all pq=false:=LJ ag h
 unfold yT;rw[this];exact⟨rfl,rfl⟩
theorem T7{l:List Int}{k:Nat}{s:aj}(ay:(l.take k).all pq=true)(aT:s=AK (l.take k))(hk:l.length<=k):s=yT l/\true=l.all pq:=by
 rw[List.take_of_length_le hk] at ay aT;unfold yT;rw[if_pos ay,ay];exact⟨aT,rfl⟩
theorem adL(c:Nat):(en c).length<=4:=xx c
theorem adM{c:Nat}(h:kN c):pq (c:Int)=true:=by
 rw[Cf];unfold kN at h;exact decide_eq_true aa
theorem adN{x:Int}(h:pq x=true):0<=x/\x<=1114111:=by
 rw[Cf] at h;have:=of_decide_eq_true h;omega
theorem Mz{s:aj}(bD:ix s)(dL:s≠[]):kN (gf s)/\en (gf s)=dF s/\(jH s)[0]?=some ((gf s:Nat):Int)/\1<=(jH s).length:=by
 have h1:=(HE s bD).2 (gf s) (by rw[xp dL];simp[gf]);have ah:=(yI dL h1.2.2).2
 have aB:jH s=((gf s:Nat):Int)::(hg (s.drop (dec s).2)).map λn:Nat=>(n:Int):=by
  unfold jH;rw[if_pos (SE.2 bD)];unfold dZ;rw[xp dL];rfl
 exact⟨h1,ah,by rw[aB];rfl,by rw[aB];simp⟩
theorem T8{s:aj}(bD:ix s)(dL:s≠[]):yT ((jH s).take 1)=dF s:=by
 obtain⟨h1,ah,aB,bH⟩:=Mz bD dL
 have c_:(jH s).take 1=[((gf s:Nat):Int)]:=by
  cases bl:jH s with
  | nil=>rw[bl] at bH;simp at bH
  | cons a r=>rw[bl] at aB;simp at aB;simp[aB]
 rw[c_];unfold yT;rw[if_pos (by simp[adM h1])];unfold AK;simp[ah]
theorem adO{s:aj}(bD:ix s)(dL:s≠[])(h:¬ (1:Int)<((jH s).length:Int)):yT (jH s)=dF s:=by
 rw[<-T8 bD dL,List.take_of_length_le aa]
theorem adP{c:Nat}(al:kN c)(t:aj):dF (en c++t)=en c:=by
 have h:hg (en c++t)=c::hg t:=wb al t
 have dL:en c++t≠[]:=by
  intro e
  rw[e] at h;simp[xo] at h
 have hd:(dec (en c++t)).1=c:=by
  rw[xp dL] at h
  exact(List.cons.inj h).1
 have:=(yI dL (by rw[hd];exact al.2.2)).2;rw[hd] at this;exact this.symm
theorem adQ{s:c9}{r:List aj}(h:∀x∈s,x.1≠r):(s.findIdx? λx=>x.1==r)=none:=by
 rw[List.findIdx?_eq_none_iff];intro x ag;exact beq_eq_false_iff_ne.2 (h x ag)
theorem T9{x t:aj}(ag:ix x)(kA:x≠[])(a_:ix t)(aru:t≠[]):(dF t==dF x)=(dF x).isPrefixOf t:=by
 obtain⟨h1,ah,_⟩:=Mz ag kA;rw[Bool.eq_iff_iff,beq_iff_eq];constructor
 . intro e;rw[<-e];exact Ap t
 . intro h;have:=Cl h;rw[<-ah] at this ⊢;rw[this];exact(adP h1 _)
def p3(aI:List aj)(i:Nat):List aj:=if i=0 then fG aI else aI.drop i
theorem T_(aI:List aj):p3 aI 0=fG aI:=rfl
theorem ES{l:List aj}(aT:oX l){i:Nat}{x:aj}(ag:l[i]?=some x)(ar:0<i):x≠[]:=by
 have hP:=(List.getElem?_eq_some_iff.1 ag).1;have bK:l[0]?=some l[0]:=List.getElem?_eq_getElem aa;have:=T5 aT bK ag ar;intro e;subst e;unfold nC at this
 have ah:Lib.compareBytes l[0] []>=0:=by
  cases l[0] with
  | nil=>decide
  | cons a r=>show(1:Int)>=0;omega
 omega
theorem adR{l:List aj}(aT:oX l){k bt:Nat}{x y:aj}(ag:l[k]?=some x)(kA:x≠[])(hk:k<=bt)(aE:l[bt]?=some y):y≠[]:=by
 rcases Nat.eq_or_lt_of_le hk with e|h
 . subst e;rw[ag] at aE;cases aE;exact kA
 . exact ES aT aE aa
theorem adS(s:aj):∀x∈jH s,-2147483648<=x/\x<=2147483647:=by
 intro x ag;obtain⟨k,hk⟩:=List.mem_iff_getElem?.1 ag;have:=ac1 hk;omega
theorem adT{aI:List aj}(aV:gv aI){i:Nat}{x:aj}(ag:aI[i]?=some x)(he:x=[]):p3 aI i=p3 aI (i+1)/\i=0:=by
 have ar:i=0:=by
  rcases Nat.eq_zero_or_pos i with h|h
  . exact h
  . exact absurd he (ES aV.sorted ag h)
 subst ar;refine⟨?_,rfl⟩;rw[T_,(TA ag he).1];rfl
theorem CD{aI:List aj}{i:Nat}{x:aj}(ag:aI[i]?=some x)(dL:x≠[]):p3 aI i=aI.drop i:=by
 unfold p3;split
 . rename_i h;subst h;rw[(TB ag dL).1];rfl
 . rfl
theorem adU{aI:List aj}{i:Nat}(h:aI.length<=i):p3 aI i=[]:=by
 unfold p3;split
 . have:aI=[]:=List.eq_nil_of_length_eq_zero aa
   subst this;rfl
 . exact List.drop_of_length_le h
theorem T'{aI:List aj}{i:Nat}(h:0<i):p3 aI i=aI.drop i:=by unfold p3;rw[if_neg aa]
theorem Ua{aI:List aj}{f:Nat}(aV:gv aI)(hd:Deep f aI)(i:Nat):gv (p3 aI i)/\(∀t∈p3 aI i,t≠[])/\Deep f (p3 aI i):=by
 unfold p3;split
 . have:=u2 aV;exact⟨this.1,this.2,λt a_=>hd t (Au a_)⟩
 . rename_i ar;refine⟨⟨LW aV.sorted (List.drop_suffix _ _),λt a_=>aV.oY t (List.mem_of_mem_drop a_)⟩,λt a_=>?_,λt a_=>hd t (List.mem_of_mem_drop a_)⟩;obtain⟨k,hk⟩:=List.mem_iff_getElem?.1 a_;rw[List.getElem?_drop] at hk;exact ES aV.sorted hk aa
theorem Ub(aI:List aj)(i:Nat):jh (p3 aI i)<=jh aI:=by
 unfold p3;split
 . rw[HR];exact Nat.le_refl _
 . have:=Ts (aI.take i) (aI.drop i);rw[List.take_append_drop] at this;omega
theorem adV{s:c9}{r:List aj}{k:Nat}{x:List aj×List cd}(fX:∀y∈s.take k,y.1≠r)(ag:s[k]?=some x)(he:x.1=r):(s.findIdx? λx=>x.1==r)=some k:=by
 obtain⟨hk,rfl⟩:=List.getElem?_eq_some_iff.1 ag;rw[List.findIdx?_eq_some_iff_getElem];refine⟨hk,by simpa using he,λj bo=>?_⟩;have:=fX s[j] (by rw[List.mem_take_iff_getElem];exact⟨j,by omega,rfl⟩);simpa using this
theorem adW{s:c9}{r:List aj}{k:Nat}{x:List aj×List cd}(fX:∀y∈s.take k,y.1≠r)(ag:s[k]?=some x)(he:x.1≠r):∀y∈s.take (k+1),y.1≠r:=by
 intro y aE;rw[List.take_add_one,ag] at aE;simp only[Option.toList_some,List.mem_append,List.mem_singleton] at aE;rcases aE with aE|rfl
 . exact fX y aE
 . exact he
theorem adX{s:c9}{r:List aj}{k:Nat}(fX:∀y∈s.take k,y.1≠r)(hk:s.length<=k):(s.findIdx? λx=>x.1==r)=none:=by
 rw[List.take_of_length_le hk] at fX;exact adQ fX
theorem adY{s:c9}{aI:List aj}(bD:(s.findIdx? λx=>x.1==aI)=none)(gG:(names s).Nodup):(names (s++(aI,[])::[])).Nodup:=by
 have fX:=LX bD;unfold names;rw[List.map_append,List.nodup_append];refine⟨gG,by simp,λa ay b ab=>?_⟩;simp only[List.map_cons,List.map_nil,List.mem_singleton] at ab;subst ab;exact λe=>fX (by rw[<-e];exact ay)
theorem Uc{f:Nat}{s:c9}{aI:List aj}(hd:Deep f aI)(aV:gv aI)(dL:aI≠[])(aR:(names s).Nodup):(names (e3 (f+1) s aI).1).Nodup:=(Av f s aI hd aV dL aR).apart
end Go.ak
namespace Go.ak
open Go.aG
theorem Ud{words:List aj}(h:e6 words=0):h' words≠[]:=by
 rw[tZ h];unfold o1 fV;split
 . simp
 . rename_i dL;obtain⟨es,he⟩:=(Cm (s8 h).2 (s8 h).1 dL).root;intro e;rw[List.map_eq_nil_iff] at e;rw[e] at he;simp at he
theorem adZ(c:Nat)(cs:List Nat):sj (c::cs)=en c++sj cs:=rfl
end Go.ak
namespace Go.aG
open Go Go.ak
structure hi where
 r:cL
 e:cL
def ob(x:hi):List Value:=[x.r.val,x.e.val]
theorem u_(x:hi):(ob x).length=2:=rfl
theorem ad0(x:hi):(ob x).all (·.oneCell')=true:=rfl
section
variable {R:Nat->Prop}
def ia(w:World)(F:Nat->Prop)(bn:List hi)(s:c9):Prop:=c3 (λn x=>aq cx w F n.r.val x.1/\aq e2 w F n.e.val x.2) bn s
theorem ia.mono{w:World}{F F':Nat->Prop}{bn:List hi}{s:c9}(h:ia w F bn s)(bs:∀b,F b->F' b):ia w F' bn s:=c3.imp (λr n ⟨h1,ah⟩=>⟨h1.mono bs,ah.mono bs⟩) h
theorem ia.keep{M:Nat->Prop}{w ao:World}{F:Nat->Prop}{bn:List hi}{s:c9}(h:ia w F bn s)(hm:Mod M w ao)(bs:∀b,F b->¬ M b):ia ao F bn s:=c3.imp (λr n ⟨h1,ah⟩=>⟨h1.keep hm bs,ah.keep hm bs⟩) h
theorem ia.len{w:World}{F:Nat->Prop}{bn:List hi}{s:c9}(h:ia w F bn s):bn.length=s.length:=(c3.get h).1
theorem ia.at{w:World}{F:Nat->Prop}{bn:List hi}{s:c9}(h:ia w F bn s){k:Nat}{n:hi}(aR:bn[k]?=some n):∃x,s[k]?=some x/\aq cx w F n.r.val x.1/\aq e2 w F n.e.val x.2:=by
 have aV:=c3.get h;have hP:=(List.getElem?_eq_some_iff.1 aR).1;have ag:s[k]?=some (s[k]'(by rw[<-aV.1];exact hP)):=(by simp);exact⟨_,ag,aV.2 k _ _ aR ag⟩
def qw(bn:List hi)(s:c9):dr R:=⟨λF w=>ia w (λb=>F b\/R b) bn s,λh hm bs fo=>ia.keep h hm λb ab=>ab.elim (bs b) (fo b)⟩
def o2(nG kX:TypeId)(ez:Nat)(s:c9)(aT:List Value):dr R:=nF λx:Value×List hi=>ps (x.2.map (λn=>n.r.val)=aT) (bh [aw ez [x.1] nG,aP ob kX 2 x.1 x.2,qw x.2 s])
theorem au.and{bV:Nat->Prop}{w0 w:World}{L:List (dr R)}{i:Nat}{P:Prop}{A:dr R}(h:au R bV w0 w L)(ar:L[i]?=some (ps P A)):P/\au R bV w0 w (L.set i A):=by
 obtain⟨F,h1,_⟩:=h.get ar;exact⟨h1.1,h.imp ar λF bs=>bs.2⟩
theorem au.ad1{bV:Nat->Prop}{w0 w:World}{L:List (dr R)}{i k:Nat}{bn:List hi}{s:c9}{n:hi}(h:au R bV w0 w L)(ar:L[i]?=some (qw bn s))(aR:bn[k]?=some n):∃x,s[k]?=some x/\aq cx w (dq 0 w.heap.size) n.r.val x.1/\aq e2 w (dq 0 w.heap.size) n.e.val x.2:=by
 obtain⟨F,h1,ah⟩:=h.get ar;have aB:ia w (dq 0 w.heap.size) bn s:=ia.mono h1 λb ab=>⟨Nat.zero_le _,ab.elim (ah b) (h.tY b)⟩
 exact aB.at aR
theorem au.Ue{bV:Nat->Prop}{w0 w:World}{L:List (dr R)}{i:Nat}{bn:List hi}{s:c9}(h:au R bV w0 w L)(ar:L[i]?=some (qw bn s)):bn.length=s.length:=by
 obtain⟨F,h1,_⟩:=h.get ar;exact ia.len h1
theorem au.H_{bV:Nat->Prop}{w0 w:World}{L:List (dr R)}{i k:Nat}{nG kX:TypeId}{ez:Nat}{s:c9}{aT:List Value}{v:Value}{x:List aj×List cd}(h:au R bV w0 w L)(ar:L[i]?=some (o2 nG kX ez s aT))(cK:aT[k]?=some v)(ag:s[k]?=some x):aq cx w (dq 0 w.heap.size) v x.1:=by
 obtain⟨F,⟨⟨sn,bn⟩,hm,fi,h1,ah,aB⟩,bs⟩:=h.get ar;have bH:ia w (λb=>fi 2 b\/R b) bn s:=h1 2 _ rfl;have c_:ia w (dq 0 w.heap.size) bn s:=ia.mono bH λb ab=>⟨Nat.zero_le _,ab.elim (λh=>(ah 2 b h).2) (h.tY b)⟩
 have EC:bn.map (λn=>n.r.val)=aT:=hm;subst EC;rw[List.getElem?_map] at cK;obtain⟨n,aR,rfl⟩:=Option.map_eq_some_iff.1 cK;obtain⟨ac9,s',e1,_⟩:=c_.at aR;rw[ag] at s';cases s';exact e1
theorem ad2{bn:List hi}{s:c9}{v:Value}{aI:List aj}{n:hi}{F:Nat->Prop}{w:World}(cK:v=n.r.val)(he:n.e.val=.slice none 0 0)(h:(bh (R:=R) [qw bn s,fc cx [(v,aI)]]).p F w):(qw (R:=R) (bn++[n]) (s++[(aI,[])])).p F w:=by
 obtain⟨fs,bz,h1,ah,aB,bH⟩:=u9 h;exact c3.app (ia.mono h1 λb ab=>ab.imp (aB b) id) (.cons ⟨cK▸(T3 ah).mono λb ab=>ab.imp (bH b) id,he▸aq.nil⟩ .nil)
theorem Uf{nG kX:TypeId}{ez:Nat}{s:c9}{aT:List Value}{F:Nat->Prop}{w:World}(h:(o2 (R:=R) nG kX ez s aT).p F w):aT.length=s.length:=by
 obtain⟨⟨sn,bn⟩,hm,fi,h1,ah,aB⟩:=h;have bH:ia w (λb=>fi 2 b\/R b) bn s:=h1 2 _ rfl;have EC:bn.map (λn=>n.r.val)=aT:=hm;rw[<-EC,List.length_map];exact ia.len bH
theorem Ug{α β:Type}{Q:α->β->Prop}:∀{a:List α} {b:List β} {i:Nat} {x:α} {y:β},c3 Q a b->Q x y->c3 Q (a.set i x) (b.set i y)
 | _,_,_,_,_,.nil,_=>.nil
 | _,_,0,_,_,.cons h r,dM=>.cons dM r
 | _,_,i+1,_,_,.cons h r,dM=>.cons h (Ug r dM)
theorem ad3{bn:List hi}{s:c9}{k:Nat}{n:hi}{hd:cL}{aI:List aj}{te es:List cd}{e:TypeId}{v:Value}{F:Nat->Prop}{w:World}(aR:bn[k]?=some n)(ag:s[k]?=some (aI,te))(cK:v=hd.val)(h:(bh (R:=R) [qw bn s,aP e2 e 2 v es]).p F w):
 (qw (R:=R) (bn.set k (hi.mk n.r hd)) (s.set k (aI,es))).p F w:=by
 obtain⟨fs,bz,h1,ah,aB,bH⟩:=u9 h;have c_:ia w (λb=>F b\/R b) bn s:=ia.mono h1 λb ab=>ab.imp (aB b) id
 obtain⟨x,s',e1,_⟩:=c_.at aR;rw[ag] at s';cases s';exact Ug c_ ⟨e1,cK▸(td ah).mono λb ab=>.inl (bH b ab)⟩
end
theorem ad4{bn:List hi}{k:Nat}{n:hi}{hd:cL}(aR:bn[k]?=some n):(bn.set k (hi.mk n.r hd)).map (λn=>n.r.val)=bn.map (λn=>n.r.val):=by
 obtain⟨h,rfl⟩:=List.getElem?_eq_some_iff.1 aR;rw[List.map_set];refine List.ext_getElem? λi=>?_
 rw[List.getElem?_set];split
 . rename_i e;subst e;simp[h]
 . rfl
theorem xA{α:Type}{a b:List α}{x:α}{n:Nat}(h:n=a.length):(a++x::b)[n]?=some x:=by
 subst h;rw[List.getElem?_append_right (Nat.le_refl _),Nat.sub_self];rfl
theorem ad5{α:Type}{a b:List α}{x y:α}{n:Nat}(h:n=a.length):(a++x::b).set n y=a++y::b:=by
 subst h;rw[List.set_append_right _ _ (Nat.le_refl _),Nat.sub_self];rfl
end Go.aG
namespace Go.aG
open Go Go.ak
theorem ia.ext{w ao:World}{F:Nat->Prop}{bn:List hi}{s:c9}(h:ia w F bn s)(hm:Ext w ao):ia ao F bn s:=ia.keep h hm λ_ _ x=>x
theorem ia.bF{w ao:World}{c7 ar g:Nat}{bn:List hi}{s:c9}(h:ia w (dq c7 ar) bn s)(hm:Mod (b3 g) w ao)(aV:g<=c7\/ar<g):ia ao (dq c7 ar) bn s:=ia.keep h hm λb ab ag=>by unfold dq b3 at *;omega
theorem ad6{R F:Nat->Prop}{nG kX:TypeId}{ez n:Nat}{s:c9}{aT:List Value}{w:World}(h:(o2 (R:=R) nG kX ez s aT).p F w)(bs:∀b,F b->b<w.heap.size/\n<=b)(fo:∀b,R b->b<w.heap.size):
 ∃sn bn,kf w n w.heap.size ez [sn]/\aq ob w (dq n w.heap.size) sn bn/\ia w (dq 0 w.heap.size) bn s:=by
 obtain⟨⟨sn,bn⟩,hm,fi,h1,ah,aB⟩:=h;have rJ:∀i b,fi i b->n<=b/\b<w.heap.size:=λi b ab=>⟨(bs b (ah i b ab).1.1).2,(ah i b ab).2⟩
 have s_:=h1 0 _ rfl;have bt:=h1 1 _ rfl;have cD:=h1 2 _ rfl;exact⟨sn,bn,⟨(rJ 0 _ s_.2).1,(rJ 0 _ s_.2).2,s_.1.row⟩,(td bt).mono λb ab=>rJ 1 b ab,ia.mono cD λb ab=>⟨Nat.zero_le _,ab.elim (λh=>(rJ 2 b h).2) (fo b)⟩⟩
theorem ad7(words:List aj):(e3 13 [] words).1=o1 words:=by
 unfold o1;split
 . rename_i h;subst h;rfl
 . rfl
theorem Uh{s:c9}{n:Int}{x:List aj×List cd}(h:0<=n)(ag:s[n.toNat]?=some x):nodeAt (fV s) n=(jX x.1,x.2):=by
 have:=AE ag;rw[show(n.toNat:Int)=n from by omega] at this;exact this
theorem ad8{s:c9}{n:Int}(h:n<0\/(s.length:Int)<=n):nodeAt (fV s) n=(false,[]):=EF (by rw[u5];exact h)
theorem ad9{r:List aj}{x:aj}(ag:r[0]?=some x){b:Bool}(ab:b=(x==[])):b=jX r:=by
 unfold jX;rw[ab,List.head?_eq_getElem?,ag]
 cases x<;>simp
theorem ad_{r:List aj}(h:¬ ((r.length:Int)>0)):false=jX r:=by
 have:r=[]:=List.eq_nil_of_length_eq_zero aa
 subst this;rfl
end Go.aG
namespace Go.aG
open Go
theorem MA{P:Program}{f:FuncId}{R:Ending->World->Prop}{n:Nat}{E:Env}{k:List Item}{w:World}{fn:Func}{t u:Tmp}{ty:TypeId}{b off sz by_:Nat}{z cs:List Value}{v2:Value}(bD:P.funcs[f]?=some fn)(ow:fn.results=#[.cell t ty,.tmp u])
 (cK:mG t E=some (ptr b off)) (a_:ey P ty=some (true,sz,by_,z)) (a':Row w b off cs) (aR:cs.length=sz) (ah:mG u E=some v2) (fo:R (.returned (.tuple #[.agg cs.toArray,v2])) w):hx P f R n E (.code .ret::k) w:=λa ay sf ab hk cs' =>
 ⟨_,w,{ sf.at a (.code .ret::k) with mode:=.returning },fo,.one step_ret,ab,BY ay bD ab hk (by
  have aV:a.tmps[t]?.getD undef=.pointer (some ⟨b,off,none⟩):=by have:=ay.has t _ cK;simpa[ptr] using this
  have eJ:a.tmps[u]?.getD undef=v2:=by simpa using ay.has u _ ah
  simp[results,ow,aV,eJ,asAddr,Sem.run_bind,Result.andThen,Lu a_ a' aR])⟩
end Go.aG
namespace Go.ak
open Go.aG
theorem ad'{words:List aj}(h:e6 words=0):1<=(o1 words).length/\(o1 words).length<=2881:=by
 unfold o1;split
 . simp
 . rename_i dL;obtain⟨es,he⟩:=(Cm (s8 h).2 (s8 h).1 dL).root;have:=(List.getElem?_eq_some_iff.1 he).1;have:=TL h;omega
theorem aea{words:List aj}(h:e6 words=0):∀y∈o1 words,y.1.length<=60:=by
 unfold o1;split
 . simp
 . exact EL 13 [] words dh (EK h).1
end Go.ak
namespace Go.aG
open Go Go.ak
def xB(h:cL):List Value:=[h.val]
theorem ET(x:cL):(xB x).length=1:=rfl
theorem aeb(x:cL):(xB x).all (·.oneCell')=true:=rfl
section
variable {R:Nat->Prop} {α:Type} {enc:α->List Value}
def so(enc:α->List Value)(aT:List cL)(ls:List (List α)):dr R:=⟨λF w=>c3 (λh l=>aq enc w (λb=>F b\/R b) h.val l) aT ls,λh hm bs fo=>c3.imp (λ_ _ k=>k.keep hm λb ab=>ab.elim (bs b) (fo b)) h⟩
theorem au.H'{bV:Nat->Prop}{w0 w:World}{L:List (dr R)}{i k:Nat}{aT:List cL}{ls:List (List α)}{x:cL}(h:au R bV w0 w L)(ar:L[i]?=some (so enc aT ls))(ag:aT[k]?=some x):∃l,ls[k]?=some l/\aq enc w (dq 0 w.heap.size) x.val l:=by
 obtain⟨F,h1,ah⟩:=h.get ar;have aV:=c3.get h1;have hP:=(List.getElem?_eq_some_iff.1 ag).1;have bl:ls[k]?=some (ls[k]'(by rw[<-aV.1];exact hP)):=(by simp);exact⟨_,bl,(aV.2 k _ _ ag bl).mono λb ab=>⟨Nat.zero_le _,ab.elim (ah b) (h.tY b)⟩⟩
theorem au.Ui{bV:Nat->Prop}{w0 w:World}{L:List (dr R)}{i:Nat}{aT:List cL}{ls:List (List α)}(h:au R bV w0 w L)(ar:L[i]?=some (so enc aT ls)):aT.length=ls.length:=by
 obtain⟨F,h1,_⟩:=h.get ar;exact(c3.get h1).1
theorem aec{e:TypeId}{sz:Nat}{v:Value}{aT:List cL}{ls:List (List α)}{l:List α}{x:cL}{F:Nat->Prop}{w:World}(cK:v=x.val)(h:(bh (R:=R) [so enc aT ls,aP enc e sz v l]).p F w):(so (R:=R) enc (aT++[x]) (ls++[l])).p F w:=by
 obtain⟨fs,bz,h1,ah,aB,bH⟩:=u9 h;exact c3.app (c3.imp (λ_ _ k=>k.mono λb ab=>ab.imp (aB b) id) h1) (.cons (cK▸(td ah).mono λb ab=>.inl (bH b ab)) .nil)
end
end Go.aG
namespace Go.aG
open Go Go.ak
def wu{R:Nat->Prop}(v:Value)(N:List cy):dr R:=⟨λF w=>∃c7 ar,hy 0 w c7 ar v N/\ar<=w.heap.size/\∀b,c7<=b->b<ar->F b,λ⟨c7,ar,h1,aB,ah⟩ hm bs _=>⟨c7,ar,by
 rcases h1 with h1|⟨b,gH,bn,bt,cD,⟨dK,hs,jA⟩,p4,o3⟩
 . exact .inl h1
 . exact .inr ⟨b,gH,bn,bt,cD,⟨dK,hs,jA.keep hm (bs b (ah b dK hs))⟩,p4.keep hm λb ab=>bs b (ah b ab.1 ab.2),o3.keep hm λb ab=>bs b (ah b ab.1 ab.2)⟩,Nat.le_trans aB hm.size,ah⟩⟩
theorem au.Uj{R bV:Nat->Prop}{w0 w:World}{L:List (dr R)}{i:Nat}{v:Value}{N:List cy}(h:au R bV w0 w L)(ar:L[i]?=some (wu v N)):∃c7 up,hy 0 w c7 up v N/\up<=w.heap.size:=by
 obtain⟨F,⟨c7,up,h1,ah,_⟩,_⟩:=h.get ar;exact⟨c7,up,h1,ah⟩
theorem au.MB{R bV:Nat->Prop}{w0 w ao:World}{L:List (dr R)}{c7 ar:Nat}{v:Value}{N:List cy}(h:au R bV w0 w L)(hm:Ext w ao)(aV:hy 0 ao c7 ar v N)(h1:w.heap.size<=c7)(ah:ar<=ao.heap.size):au R bV w0 ao (L++[wu v N]):=
 h.new (F:=dq c7 ar) hm ⟨c7,ar,aV,ah,λb d_ q2=>⟨d_,q2⟩⟩ λb ab=>⟨Nat.le_trans h1 ab.1,Nat.lt_of_lt_of_le ab.2 ah⟩
end Go.aG
namespace Go.ak
open Go.aG
theorem Uk{words:List aj}(h:e6 words=0):∀x∈h' words,x.2.length<=60:=by
 have bW:=Cz h;intro x ag;rw[tZ h] at ag;obtain⟨y,aE,rfl⟩:=List.mem_map.1 ag;have h1:=(c3.get (bW.node y aE).1).1;have ah:=Ms _ (fG y.1) (Nat.le_refl _);have aB:=HS y.1;have bH:=aea h y aE;simp only;omega
theorem CE{words:List aj}(h:e6 words=0):1<=(h' words).length/\(h' words).length<=2881:=by
 rw[tZ h,u5];exact ad' h
theorem MC{words:List aj}(h:e6 words=0):(hJ (h' words)).length<=3000000:=by
 have h1:=adz (Uk h);have ah:=(CE h).2;rw[My];omega
theorem Ul{g:List cy}(h:(hJ g).length<=3000000):(yR g).length<=3000010:=by
 unfold yR;split
 . simp
 . rw[n4];rw[My] at h;omega
theorem arv(g:List cy)(h:(hJ g).length<=3000000):(yR g).length<=3000010:=Ul h
theorem Ia{words:List aj}(h:e6 words=0):h' words≠[]:=by
 intro e;have:=(CE h).1;rw[e] at this;simp at this
theorem aed{words:List aj}(h:e6 words=0):yR (h' words)=lx words:=by
 unfold lx;rw[if_pos h,Mx (Ia h)]
theorem aee{words:List aj}(h:e6 words=0):H6 (h' words)=e6 words:=by
 rw[h];exact(TZ (Ia h)).symm
theorem Ib(words:List aj):(lx words).length<=3000010:=by
 unfold lx;split
 . rename_i h;rw[<-Mx (Ia h)];exact Ul (MC h)
 . simp
theorem CF{words:List aj}(h:e6 words=0):kW (h' words)=lx words:=by unfold lx;rw[if_pos h]
end Go.ak
namespace Go.ak
open Go.aG
def ua(l:List aj):Prop:=∀s∈l,s.length<=1000000000
theorem ua.at{l:List aj}(h:ua l){k:Nat}{x:aj}(ag:l[k]?=some x):x.length<=1000000000:=h x (List.mem_of_getElem? ag)
theorem aef{l:List aj}(h:qW l=false):ua l:=by
 intro s aT;unfold qW at h;simp only[Bool.or_eq_false_iff,List.any_eq_false,decide_eq_true_eq] at h;have:=h.2 s aT;omega
end Go.ak
namespace Go.ak
open Go.aG
structure qx(c:cG):Prop where
 words:ua c.words
 cuts:∀k∈c.cuts,k.text.length<=1000
 wl:c.words.length<=80
 cl:c.cuts.length<=10
theorem qx.of{c:cG}(h:sg c=false):qx c:=by
 unfold sg at h;simp only[Bool.or_eq_false_iff,decide_eq_false_iff_not] at h;obtain⟨⟨h1,ah⟩,aB⟩:=h;refine⟨aef aB,λk hk=>?_,adF aB,by omega⟩;rw[List.any_eq_false] at ah;have:=ah k hk;simp only[decide_eq_true_eq] at this;omega
theorem aeg(a b:Key):Hu a b=if po a.len b.len≠0 then po a.len b.len else Lib.compareBytes a.text b.text:=by
 unfold Hu;simp only[oz];split
 . rfl
 . split
   . rfl
   . omega
theorem Ic{a b:Key}:oW a b=true↔a.len<b.len\/a.len=b.len/\Lib.compareBytes a.text b.text<0:=by
 unfold oW;rw[decide_eq_true_eq,aeg];unfold po;by_cases h1:a.len<b.len
 . simp[h1]
 . by_cases ah:a.len>b.len
   . simp[h1,ah];omega
   . have:a.len=b.len:=by omega
     simp[this]
theorem aeh{a b:Key}(h:a.len<b.len):true=oW a b:=(Ic.2 (.inl h)).symm
theorem aei{a b:Key}(h1:¬ a.len<b.len)(ah:¬ a.len=b.len):false=oW a b:=by
 cases h:oW a b with
 | false=>rfl
 | true=>rw[Ic] at h;rcases h with h|h;exact absurd h h1;exact absurd h.1 ah
theorem aej{a b:Key}{c:Bool}(ah:a.len=b.len)(h:c=decide (Lib.compareBytes a.text b.text<0)):c=oW a b:=by
 cases gL:oW a b with
 | true =>
  rw[Ic] at gL;rcases gL with gL|gL
  . omega
  . rw[h];exact decide_eq_true gL.2
 | false =>
  rw[h];refine decide_eq_false λag=>?_
  have:=Ic.2 (.inr ⟨ah,ag⟩);rw[gL] at this;cases this
theorem aek{cuts:List Key}{w:aj}{j n:Nat}(hw:word w=true)(h:n=((cuts.take j).filter λc=>!oW ⟨iL w,w⟩ c).length)(bo:cuts.length<=j):(n:Int)=ofM cuts w:=by
 rw[List.take_of_length_le bo] at h;unfold ofM;rw[if_pos hw,h];rfl
theorem ael{cuts:List Key}{w:aj}(hw:word w=false):(-1:Int)=ofM cuts w:=by unfold ofM;rw[hw];rfl
theorem arw(cuts:List Key)(w:aj):-1<=ofM cuts w/\ofM cuts w<=cuts.length:=by
 unfold ofM LK;split
 . have:=List.length_filter_le (λc=>!oW ⟨iL w,w⟩ c) cuts;omega
 . omega
theorem aem{cuts:List Key}{w:aj}(hw:word w=true):0<=ofM cuts w:=by unfold ofM;rw[if_pos hw];omega
theorem aen{cuts:List Key}{shard:Int}{w:aj}(hw:word w=true)(h:ofM cuts w=shard):tQ cuts shard w=true:=R' (aem hw) h
theorem aeo{cuts:List Key}{shard:Int}{w:aj}(hw:word w=false):tQ cuts shard w=false:=Sa (by unfold ofM;rw[hw];simp)
theorem Um(cuts:List Key)(words:List aj)(shard:Int):(rF cuts words shard).length<=words.length:=List.length_filter_le _ _
theorem aep{cuts:List Key}{words:List aj}{shard:Int}(h:ua words):ua (rF cuts words shard):=λs aT=>h s (List.mem_filter.1 aT).1
theorem aeq{cuts:List Key}{words:List aj}{shard:Int}(h:v8 words):v8 (rF cuts words shard):=λs aT=>h s (List.mem_filter.1 aT).1
theorem aer{c:cG}{shard:Int}{j:Nat}{l:List Int}(ar:l=(List.range j).map (λj:Nat=>1+(shard+(j:Int)) % c.workers))(h1:¬ (j:Int)<c.lL)(ah:j<=c.lL.toNat)(AL:j=0\/within shard 0 ((jf c:Int)-1)=true):l=jV c shard:=by
 by_cases hw:within shard 0 ((jf c:Int)-1)=true
 . exact LN hw ar aa
 . have bo:j=0:=AL.resolve_right hw;subst bo;rw[ar];exact Hz (by simpa using hw)
theorem aes{c:cG}{shard:Int}{j:Nat}{l:List Int}(ar:l=(List.range j).map (λj:Nat=>1+(shard+(j:Int)) % c.workers))(h1:shard<0\/(jf c:Int)<=shard)(AL:j=0\/within shard 0 ((jf c:Int)-1)=true):l=jV c shard:=by
 have hw:within shard 0 ((jf c:Int)-1)=false:=by
  unfold within
  rcases h1 with h1|h1
  . rw[decide_eq_false aa];rfl
  . rw[decide_eq_false (p:=shard<=_) aa,Bool.and_false]
 have bo:j=0:=AL.resolve_right (by rw[hw];simp);subst bo;rw[ar];exact Hz hw
theorem aet{shard:Int}{c:cG}(bK:0<=shard)(h1:shard<(jf c:Int)):within shard 0 ((jf c:Int)-1)=true:=by
 unfold within;rw[decide_eq_true bK,decide_eq_true aa];rfl
theorem aeu{W s:Int}{i j:Nat}(n9:(i:Int)<W)(bo:(j:Int)<W)(h:(s+(i:Int)) % W=(s+(j:Int)) % W):i=j:=by
 have h1:=Int.emod_add_mul_ediv (s+(i:Int)) W;have ah:=Int.emod_add_mul_ediv (s+(j:Int)) W;rw[h] at h1;have aB:W*((s+i) / W-(s+j) / W)=(i:Int)-j:=(by rw[Int.mul_sub];omega);by_cases dM:(s+(i:Int)) / W-(s+(j:Int)) / W=0
 . rw[dM] at aB;omega
 . exfalso;rcases Int.lt_or_gt_of_ne dM with bH|bH
   . have:W*((s+i) / W-(s+j) / W)<=W*(-1):=Int.mul_le_mul_of_nonneg_left aa aa
     omega
   . have:W*1<=W*((s+i) / W-(s+j) / W):=Int.mul_le_mul_of_nonneg_left aa aa
     omega
theorem aev(c:cG)(shard:Int)(x:Int):(jV c shard).count x=if (jV c shard).contains x=true then 1 else 0:=by
 have aR:(jV c shard).Nodup:=by
  unfold jV
  split
  . rename_i hw
    have aT:=n_ hw
    have hm:=Ak (Hy (c:=c) aa)
    rw[List.Nodup,List.pairwise_map]
    refine List.Pairwise.imp_of_mem (R:=λa b=>a≠b) (λ{a b} ay ab mI e=>?_) (List.nodup_range (n:=c.lL.toNat))
    have h1:=List.mem_range.1 ay
    have ah:=List.mem_range.1 ab
    exact mI (aeu (W:=c.workers) (s:=shard) aa aa aa)
  . simp
 by_cases h:x∈jV c shard
 . rw[if_pos (by simpa using h)];have h1:=List.nodup_iff_count.1 aR x;have ah:=List.count_pos_iff.2 h;omega
 . rw[if_neg (by simpa using h)];exact List.count_eq_zero.2 h
theorem aew{c:cG}{worker:Int}{k j:Nat}{l dP:List Int}(h:l=((List.range k).filter (λs:Nat=>(jV c (s:Int)).contains worker)).map (λs:Nat=>(s:Int)))(ah:dP=l++List.replicate (((jV c (k:Int)).take j).count worker) (k:Int))(bo:(jV c (k:Int)).length<=j):
 dP=((List.range (k+1)).filter (λs:Nat=>(jV c (s:Int)).contains worker)).map (λs:Nat=>(s:Int)):=by
 rw[List.take_of_length_le bo,aev] at ah;rw[ah,List.range_succ,List.filter_append,List.map_append,<-h];congr 1
 by_cases al:(jV c (k:Int)).contains worker=true
 . rw[if_pos al,List.filter_cons_of_pos (p:=λs:Nat=>(jV c (s:Int)).contains worker) al];rfl
 . rw[if_neg al,List.filter_cons_of_neg (p:=λs:Nat=>(jV c (s:Int)).contains worker) al];rfl
theorem aex{l dP w:List Int}{worker x k:Int}{j:Nat}(ah:dP=l++List.replicate ((w.take j).count worker) k)(ag:w[j]?=some x)(he:x=worker):dP++[k]=l++List.replicate ((w.take (j+1)).count worker) k:=by
 rw[ah,List.take_add_one,ag,List.count_append,he];simp[List.replicate_succ']
theorem aey{l dP w:List Int}{worker x k:Int}{j:Nat}(ah:dP=l++List.replicate ((w.take j).count worker) k)(ag:w[j]?=some x)(he:¬ x=worker):dP=l++List.replicate ((w.take (j+1)).count worker) k:=by
 rw[ah,List.take_add_one,ag,List.count_append];simp[he]
def u'(c:cG)(shard:Int):List aj:=if 0<=shard/\shard<(jf c:Int) then rF c.cuts c.words shard else[]
theorem aez{c:cG}{shard:Int}(h:shard<0\/(jf c:Int)<=shard):[]=u' c shard:=by unfold u';rw[if_neg aa]
theorem Un{c:cG}{shard:Int}(h:0<=shard)(ah:shard<(jf c:Int)):rF c.cuts c.words shard=u' c shard:=by unfold u';rw[if_pos ⟨h,ah⟩]
def gY(c:cG)(shard:Int):List UInt8:=if 0<=shard/\shard<(jf c:Int) then lx (rF c.cuts c.words shard) else[]
def wv(c:cG)(shard:Int):Int:=if 0<=shard/\shard<(jf c:Int) then e6 (rF c.cuts c.words shard) else 4
theorem Ie{c:cG}{shard:Int}(h:shard<0\/(jf c:Int)<=shard):([]:List UInt8)=gY c shard/\(4:Int)=wv c shard:=by unfold gY wv;rw[if_neg aa,if_neg aa];exact⟨rfl,rfl⟩
theorem EU{c:cG}{shard:Int}(h:0<=shard)(ah:shard<(jf c:Int)):lx (rF c.cuts c.words shard)=gY c shard/\e6 (rF c.cuts c.words shard)=wv c shard:=by unfold gY wv;rw[if_pos ⟨h,ah⟩,if_pos ⟨h,ah⟩];exact⟨rfl,rfl⟩
theorem Uo(c:cG)(shard:Int):(gY c shard).length<=3000010:=by
 unfold gY;split
 . exact Ib _
 . simp
theorem Up(c:cG)(shard:Int):(jV c shard).length<=3:=by
 unfold jV;split
 . rename_i hw;have aT:=n_ hw;have hm:=Ak (Hy (c:=c) aa);simp;omega
 . simp
theorem CG(c:cG)(worker:Int):(cn c worker).length<=6:=by
 unfold cn;rw[List.length_map];have h1:=List.length_filter_le (λs:Nat=>(jV c (s:Int)).contains worker) (List.range (jf c));have ah:=uX c;rw[List.length_range] at h1;omega
end Go.ak
theorem Go.ak.aeA(c:Go.ak.cG)(shard:Int):(Go.ak.u' c shard).length<=c.words.length:=by
 unfold Go.ak.u';split
 . exact Go.ak.Um _ _ _
 . simp
theorem Go.ak.aeB(c:Go.ak.cG)(shard:Int):0<=Go.ak.wv c shard/\Go.ak.wv c shard<=100:=by
 unfold Go.ak.wv;split
 . have:=Go.ak.yC (Go.ak.rF c.cuts c.words shard);omega
 . omega
namespace Go.ak
open Go.aG
def eb(b:List UInt8)(size:Nat)(s:Int×Bool):Int×(Int×Bool):=if mK b s.1 size=true then(j6 b s.1 size,(s.1+size,s.2)) else(0,(s.1,true))
theorem yU{b:List UInt8}{size:Nat}{a:Int}{q:Bool}(h:mK b a size=false):eb b size (a,q)=(0,(a,true)):=by unfold eb;rw[if_neg (by simp[h])]
theorem va{b:List UInt8}{size:Nat}{a:Int}{q:Bool}(h:mK b a size=true):eb b size (a,q)=(j6 b a size,(a+size,q)):=by unfold eb;rw[if_pos h]
theorem Uq{b:List UInt8}{a:Int}{size:Nat}(h:size<=4):j6 b a size<4294967296:=by
 unfold j6;split
 . have:=Mu (i:=size) (l:=b.drop a.toNat) h;simp only[Int.toNat_natCast];omega
 . omega
theorem q6{b:List UInt8}{size:Nat}{a f a2:Int}{q q2:Bool}(aT:size<=4)(ay:0<=a/\a<=b.length)(h:eb b size (a,q)=(f,(a2,q2))):0<=f/\f<4294967296/\a<=a2/\a2<=b.length/\a2<=a+size/\(q=true->q2=true)/\(q2=false->a2=a+size):=by
 have bK:=Mv b a size;have h1:=Uq (b:=b) (a:=a) aT
 cases bW:mK b a size with
 | false =>
  rw[yU bW] at h;simp only[Prod.mk.injEq] at h;obtain⟨rfl,rfl,rfl⟩:=h;exact⟨by omega,by omega,by omega,by omega,by omega,λ_=>rfl,λh=>by cases h⟩
 | true =>
  rw[va bW] at h;simp only[Prod.mk.injEq] at h;obtain⟨rfl,rfl,rfl⟩:=h;unfold mK at bW;have:=of_decide_eq_true bW;exact⟨bK,h1,by omega,by omega,by omega,id,λ_=>rfl⟩
theorem AM{b:List UInt8}{a f a2:Int}{q q2:Bool}{size:Nat}(h:eb b size (a,q)=(f,(a2,q2)))(aT:size<=2):f<65536:=by
 cases bW:mK b a size with
 | false =>
  rw[yU bW] at h;simp only[Prod.mk.injEq] at h;omega
 | true =>
  rw[va bW] at h;simp only[Prod.mk.injEq] at h;rw[<-h.1];unfold j6;rw[if_pos bW];have h1:=Mt (l:=(b.drop a.toNat).take size);have ah:((b.drop a.toNat).take size).length<=2:=(by rw[List.length_take];omega);have aB:256 ^ ((b.drop a.toNat).take size).length<=256 ^ 2:=Nat.pow_le_pow_right aa ah;simp only[Int.toNat_natCast];omega
def rO(b:List UInt8)(s:Int×Bool):cd×(Int×Bool):=
 let r:=eb b 4 s
 let t:=eb b 2 (r.2.1,r.2.2 || decide (r.1>1114111))
 (cd.mk (IntKind.i32.wrap r.1) t.1,t.2)
def kq(b:List UInt8):Nat->Int×Bool->List cd×(Int×Bool)
 | 0,s=>([],s)
 | n+1,s=>if s.2=true then([],s) else((rO b s).1::(kq b n (rO b s).2).1,(kq b n (rO b s).2).2)
def l9(b:List UInt8)(s:Int×Bool):cy×(Int×Bool):=
 let f:=eb b 1 s
 let c:=eb b 2 (f.2.1,f.2.2 || decide (f.1>1))
 let r:=kq b c.1.toNat c.2
 ((decide (f.1=1),r.1),r.2)
def k8(b:List UInt8):Nat->Int×Bool->List cy×(Int×Bool)
 | 0,s=>([],s)
 | n+1,s=>if s.2=true then([],s) else((l9 b s).1::(k8 b n (l9 b s).2).1,(k8 b n (l9 b s).2).2)
def qy(b:List UInt8)(n:Nat)(dG:Int×Bool)(i:Nat)(es:List cd)(s:Int×Bool):Prop:=kq b n dG=(es++(kq b (n-i) s).1,(kq b (n-i) s).2)
theorem qy.start(b:List UInt8)(n:Nat)(s:Int×Bool):qy b n s 0 [] s:=by unfold qy;simp
theorem qy.step{b:List UInt8}{n i:Nat}{dG:Int×Bool}{a:Int}{es:List cd}{e:cd}{jT:Int×Bool}(h:qy b n dG i es (a,false))(ar:i<n)(he:rO b (a,false)=(e,jT)):qy b n dG (i+1) (es++[e]) jT:=by
 unfold qy at *;rw[h];obtain⟨m,hm⟩:∃m,n-i=m+1:=⟨n-i-1,by omega⟩;rw[hm,show n-(i+1)=m from by omega]
 conv=>lhs;unfold kq
 rw[if_neg dh,he];simp
theorem qy.bad{b:List UInt8}{n i:Nat}{dG:Int×Bool}{a:Int}{es:List cd}(h:qy b n dG i es (a,true)):kq b n dG=(es,(a,true)):=by
 unfold qy at h;rw[h]
 cases n-i with
 | zero=>simp[kq]
 | succ m=>unfold kq;simp
theorem qy.fin{b:List UInt8}{n i:Nat}{dG:Int×Bool}{es:List cd}{s:Int×Bool}(h:qy b n dG i es s)(ar:n<=i):kq b n dG=(es,s):=by
 unfold qy at h;rw[show n-i=0 from by omega] at h;rw[h];simp[kq]
end Go.ak
namespace Go.ak
open Go.aG
theorem aeC{b:List UInt8}{s:Int×Bool}{f ib t a2:Int}{d_ X q2:Bool}(h1:(f,ib,d_)=eb b 4 s)(rP:X=(d_ || decide (f>1114111)))(ah:(t,a2,q2)=eb b 2 (ib,X)):rO b s=(cd.mk (IntKind.i32.wrap f) t,(a2,q2)):=by
 unfold rO;simp only[<-h1,<-rP,<-ah]
theorem Ig{b:List UInt8}{a:Int}{q:Bool}{f ib c a2 a3:Int}{d_ X q2 fE fin:Bool}{es:List cd}(h1:(f,ib,d_)=eb b 1 (a,q))(rP:X=(d_ || decide (f>1)))(ah:(c,a2,q2)=eb b 2 (ib,X))(aB:kq b c.toNat (a2,q2)=(es,(a3,fE)))(bD:fin=(f==1)):l9 b (a,q)=((fin,es),(a3,fE)):=by
 unfold l9;simp only[<-h1,<-rP,<-ah,aB,bD];rfl
end Go.ak
namespace Go.aG
open Go Go.ak
def yV{R:Nat->Prop}(kX MD:TypeId)(b:Nat)(fin:Bool)(es:List cd):dr R:=nF λv:Value=>bh [aw b [.bool fin,v] kX,aP e2 MD 2 v es]
end Go.aG
namespace Go.ak
open Go.aG
def oc{b9:Type}(g:b9->cd->Bool×b9):b9->List cd->Bool×b9
 | s,[]=>(true,s)
 | s,e::r=>if (g s e).1=true then oc g (g s e).2 r else(false,(g s e).2)
theorem Ur{b9:Type}{g:b9->cd->Bool×b9}{s:b9}{l:List cd}{k:Nat}{e:cd}{R:Bool×b9}(h:R=oc g s (l.drop k))(ag:l[k]?=some e)(aV:(g s e).1=true):R=oc g (g s e).2 (l.drop (k+1)):=by
 rw[h,wm ag]
 conv=>lhs;unfold oc
 rw[if_pos aV]
theorem Us{b9:Type}{g:b9->cd->Bool×b9}{s:b9}{l:List cd}{k:Nat}{e:cd}{R:Bool×b9}(h:R=oc g s (l.drop k))(ag:l[k]?=some e)(aV:(g s e).1=false):R=(false,(g s e).2):=by
 rw[h,wm ag]
 conv=>lhs;unfold oc
 rw[if_neg (by simp[aV])]
theorem Ut{b9:Type}{g:b9->cd->Bool×b9}{s:b9}{l:List cd}{k:Nat}{R:Bool×b9}(h:R=oc g s (l.drop k))(hk:l.length<=k):R=(true,s):=by
 rw[h,List.drop_of_length_le hk];rfl
def ir(N:List cy):Nat->Nat->Int->List Int->Bool×List Int
 | 0,_,_,st=>(false,st)
 | f+1,n,d,st=>match N[n]? with
  | none=>(false,st)
  | some x=>if st[n]?=some 2 then(true,st) else if st[n]?=some 1\/d>12\/(x.1=false/\x.2=[]) then(false,st) else
   if (oc (λst e=>ir N f e.to.toNat (d+1) st) (st.set n 1) x.2).1=true then(true,(oc (λst e=>ir N f e.to.toNat (d+1) st) (st.set n 1) x.2).2.set n 2) else(false,(oc (λst e=>ir N f e.to.toNat (d+1) st) (st.set n 1) x.2).2)
section
variable {N:List cy} {f n:Nat} {d:Int} {st:List Int} {x:cy} {y:Int}
theorem EV(ag:N[n]?=some x)(aE:st[n]?=some y)(h:y=2):ir N (f+1) n d st=(true,st):=by
 subst h;unfold ir;rw[ag];simp only;rw[aE,if_pos rfl]
theorem Ih(ag:N[n]?=some x)(aE:st[n]?=some y)(h:¬ y=2)(ah:y=1\/d>12\/(x.1=false/\x.2=[])):ir N (f+1) n d st=(false,st):=by
 unfold ir;rw[ag];simp only;rw[aE,if_neg (by simpa using h),if_pos (by simpa using ah)]
theorem ME(ag:N[n]?=some x)(aE:st[n]?=some y)(h:¬ y=2)(ah:¬ (y=1\/d>12\/(x.1=false/\x.2=[]))){R:Bool×List Int}(fo:R=oc (λst e=>ir N f e.to.toNat (d+1) st) (st.set n 1) x.2):ir N (f+1) n d st=if R.1=true then(true,R.2.set n 2) else(false,R.2):=by
 subst fo
 conv=>lhs;unfold ir
 rw[ag];simp only;rw[aE,if_neg (by simpa using h),if_neg (by simpa using ah)]
end
theorem Uu{N:List cy}{f n:Nat}{d:Int}{st jT:List Int}{x:cy}{y:Int}(ag:N[n]?=some x)(aE:st[n]?=some y)(h:¬ y=2)(ah:¬ (y=1\/d>12\/(x.1=false/\x.2=[])))(fo:oc (λst e=>ir N f e.to.toNat (d+1) st) (st.set n 1) x.2=(false,jT)):ir N (f+1) n d st=(false,jT):=by
 rw[ME ag aE h ah fo.symm];simp
theorem Uv{N:List cy}{f n:Nat}{d:Int}{st jT:List Int}{x:cy}{y:Int}(ag:N[n]?=some x)(aE:st[n]?=some y)(h:¬ y=2)(ah:¬ (y=1\/d>12\/(x.1=false/\x.2=[])))(fo:oc (λst e=>ir N f e.to.toNat (d+1) st) (st.set n 1) x.2=(true,jT)):ir N (f+1) n d st=(true,jT.set n 2):=by
 rw[ME ag aE h ah fo.symm];simp
theorem Uw{g:List Int->cd->Bool×List Int}{m:Nat}(aV:∀s e,s.length=m->(g s e).2.length=m):∀(l:List cd) (s:List Int),s.length=m->(oc g s l).2.length=m
 | [],s,h=>h
 | e::l,s,h=>by
  unfold oc
  split
  . exact Uw aV l _ (aV s e h)
  . exact aV s e h
theorem Ii(N:List cy):∀(f n:Nat) (d:Int) (st:List Int),(ir N f n d st).2.length=st.length
 | 0,_,_,_=>rfl
 | f+1,n,d,st=>by
  unfold ir
  split
  . rfl
  . split
    . rfl
    . split
      . rfl
      . have:=Uw (g:=λst e=>ir N f e.to.toNat (d+1) st) (m:=st.length) (λs e h=>(Ii N f _ _ s).trans h) (‹cy›.2) (st.set n 1) dh
        split
        . simp only[List.length_set];exact this
        . exact this
def sq(N:List cy):Bool:=(decide (N.length=1) && decide ((N[0]?.map (·.2.length))=some 0)) || (ir N 14 0 0 (List.replicate N.length 0)).1
theorem MF{N:List cy}{x:cy}(h:N.length=1)(ag:N[0]?=some x)(ah:x.2.length=0):sq N=true:=by
 unfold sq;rw[ag];simp[h,ah]
theorem MG{N:List cy}{b:Bool}(ab:(ir N 14 0 0 (List.replicate N.length 0)).1=b)(h:N.length≠1\/∃x,N[0]?=some x/\x.2.length≠0):sq N=b:=by
 subst ab;unfold sq;rcases h with h|⟨x,ag,ah⟩
 . simp[h]
 . rw[ag];simp[ah]
theorem yW(r:Int):(fC r).length<=4:=by
 unfold fC Utf8.encode;simp only;repeat' split
 all_goals first|(simp;done)|(simp only[ByteArray.arx,List.toArray_toList];decide)|rfl|decide|simp
theorem Ux{b9:Type}{g:b9->cd->b9}{s:b9}{l:List cd}{k:Nat}{e:cd}{R:b9}(h:R=(l.drop k).foldl g s)(ag:l[k]?=some e):R=(l.drop (k+1)).foldl g (g s e):=by
 rw[h,wm ag];rfl
theorem Uy{b9:Type}{g:b9->cd->b9}{s:b9}{l:List cd}{k:Nat}{R:b9}(h:R=(l.drop k).foldl g s)(hk:l.length<=k):R=s:=by
 rw[h,List.drop_of_length_le hk];rfl
def nH(N:List cy):Nat->Nat->aj->Int->List aj×Bool->List aj×Bool
 | 0,_,_,_,s=>(s.1,false)
 | f+1,n,a,d,s=>if s.2=false\/s.1.length>60\/d>12 then(s.1,false) else match N[n]? with
  | none=>(s.1,false)
  | some x=>x.2.foldl (λs e=>nH N f e.to.toNat (a++fC e.rune) (d+1) s) (if x.1=true then(s.1++[a],s.2) else s)
section
variable {N:List cy} {f n:Nat} {d:Int} {a:aj} {l:List aj} {ok:Bool} {x:cy}
theorem MH(h:ok=false\/l.length>60\/d>12):nH N (f+1) n a d (l,ok)=(l,false):=by
 unfold nH;rw[if_pos h]
theorem MI(h:¬ (ok=false\/l.length>60\/d>12))(ag:N[n]?=some x){R dG:List aj×Bool}(bK:dG=if x.1=true then(l++[a],ok) else(l,ok))(fo:x.2.foldl (λs e=>nH N f e.to.toNat (a++fC e.rune) (d+1) s) dG=R):nH N (f+1) n a d (l,ok)=R:=by
 conv=>lhs;unfold nH
 rw[if_neg h,ag];simp only;rw[<-fo,bK]
end
theorem Uz{g:List aj×Bool->cd->List aj×Bool}(aV:∀s e,s.1.length<=61->(g s e).1.length<=61):∀(l:List cd) (s:List aj×Bool),s.1.length<=61->(l.foldl g s).1.length<=61
 | [],s,h=>h
 | e::l,s,h=>Uz aV l _ (aV s e h)
theorem EW(N:List cy):∀(f n:Nat) (a:aj) (d:Int) (s:List aj×Bool),s.1.length<=61->(nH N f n a d s).1.length<=61
 | 0,_,_,_,s,h=>h
 | f+1,n,a,d,s,h=>by
  unfold nH
  split
  . exact h
  . next aR =>
    split
    . exact h
    . refine Uz (λs e h=>EW N f _ _ _ s h) _ _ ?_
      have:¬ s.1.length>60:=λh=>aR (.inr (.inl h))
      split
      . simp only[List.length_append,List.length_cons,List.length_nil];omega
      . exact h
def kh(N:List cy):List aj×Bool:=
 let r:=nH N 14 0 [] 0 ([],true)
 (r.1,r.2 && decide (r.1.length<=60))
theorem UA{N:List cy}{l:List aj}{ok v:Bool}(h:(l,ok)=nH N 14 0 [] 0 ([],true))(cK:v=(ok && decide (l.length<=60))):kh N=(l,v):=by
 unfold kh;simp only[<-h,cK]
theorem UB{g:List aj×Bool->cd->List aj×Bool}(aV:∀s e,(∀t∈s.1,t.length<=1000)->∀t∈(g s e).1,t.length<=1000):∀(l:List cd) (s:List aj×Bool),(∀t∈s.1,t.length<=1000)->∀t∈(l.foldl g s).1,t.length<=1000
 | [],s,h=>h
 | e::l,s,h=>UB aV l _ (aV s e h)
theorem UC(N:List cy):∀(f n:Nat) (a:aj) (d:Int) (s:List aj×Bool),(a.length:Int)<=4*d->(∀t∈s.1,t.length<=1000)->∀t∈(nH N f n a d s).1,t.length<=1000
 | 0,_,_,_,s,_,h=>h
 | f+1,n,a,d,s,ay,h=>by
  unfold nH
  split
  . exact h
  . next aR =>
    split
    . exact h
    . refine UB (λs e h=>UC N f _ _ _ s (by have:=yW e.rune;simp only[List.length_append];omega) h) _ _ ?_
      have:¬ d>12:=λh=>aR (.inr (.inr h))
      split
      . intro t a_
        rcases List.mem_append.1 a_ with a_|a_
        . exact h t a_
        . simp only[List.mem_singleton] at a_;subst a_;omega
      . exact h
theorem aeD(N:List cy):∀t∈(kh N).1,t.length<=1000:=UC N 14 0 [] 0 ([],true) dh (λt a_=>by cases a_)
theorem aeE(N:List cy):v8 (kh N).1:=λt a_=>by have:=aeD N t a_;omega
theorem aeF(N:List cy):(kh N).1.length<=61:=EW N 14 0 [] 0 ([],true) dh
def xC(N:List cy):Bool:=N.all λx=>x.2.all λe=>decide (1<=e.to/\e.to<(N.length:Int))
def CH(N:List cy):Option (List aj):=
 if xC N=true/\N.length≠0/\N.length<=721/\sq N=true/\(kh N).2=true/\e6 (kh N).1=0/\h' (kh N).1=N then some (kh N).1 else none
def ly(N:List cy):List cy:=match CH N with
 | none=>[]
 | some l=>h' l
theorem xD{N:List cy}(h:¬ (xC N=true/\N.length≠0/\N.length<=721/\sq N=true/\(kh N).2=true/\e6 (kh N).1=0/\h' (kh N).1=N)):ly N=[]:=by
 unfold ly CH;rw[if_neg h]
theorem UD{N:List cy}(h:xC N=true/\N.length≠0/\N.length<=721/\sq N=true/\(kh N).2=true/\e6 (kh N).1=0/\h' (kh N).1=N):ly N=h' (kh N).1:=by
 unfold ly CH;rw[if_pos h]
theorem Ij{N:List cy}:xC N=true↔∀x∈N,∀e∈x.2,1<=e.to/\e.to<(N.length:Int):=by
 unfold xC;simp
theorem yX{N:List cy}{k i:Nat}{x:cy}{e:cd}(ag:N[k]?=some x)(he:x.2[i]?=some e)(h:¬ (1<=e.to/\e.to<(N.length:Int))):¬ xC N=true:=λa'=>h (Ij.1 a' x (List.mem_of_getElem? ag) e (List.mem_of_getElem? he))
theorem Ik{N M:List cy}(h:N.length≠M.length):decide (N=M)=false:=decide_eq_false λe=>h (by rw[e])
theorem EX{N M:List cy}{k:Nat}{a b:cy}(ay:N[k]?=some a)(ab:M[k]?=some b)(h:a≠b):decide (N=M)=false:=decide_eq_false λe=>h (by subst e;exact Option.some.inj (ay.symm.trans ab))
theorem Il{N M:List cy}{k i:Nat}{a b:cy}{x y:cd}(ay:N[k]?=some a)(ab:M[k]?=some b)(ag:a.2[i]?=some x)(aE:b.2[i]?=some y)(h:x≠y):decide (N=M)=false:=EX ay ab λe=>h (by subst e;exact Option.some.inj (ag.symm.trans aE))
theorem UE{α:Type}{N M:List α}{k:Nat}{a:α}(h:N.take k=M.take k)(ay:N[k]?=some a)(ab:M[k]?=some a):N.take (k+1)=M.take (k+1):=by
 rw[List.take_add_one,List.take_add_one,h,ay,ab]
theorem UF{α:Type}{N M:List α}{k:Nat}(h:N.take k=M.take k)(h1:N.length<=k)(ah:M.length<=k):N=M:=by
 rwa[List.take_of_length_le h1,List.take_of_length_le ah] at h
theorem aeG{a b:cy}(h1:a.1=b.1)(ah:a.2=b.2):a=b:=Prod.ext h1 ah
end Go.ak
namespace Go.aG
open Go Go.ak
theorem MJ{w:World}{ez g:Nat}{e aeH:TypeId}{v:Value}{bn:List c'}{N:List cy}{G:Nat->Prop}(ab:ds w ez [v] e)(ay:Acc fx aeH 2 w g v bn)(aV:g<=w.heap.size)(a':jY w G bn N)(cb:∀b,G b->b<w.heap.size):
 Row w ez 0 [v]/\ez<w.heap.size/\aq fx w (λb=>b<w.heap.size) v bn/\jY w (λb=>b<w.heap.size) bn N:=
 ⟨ab.row,ab.lt,ay.cj.mono λb h=>Nat.lt_of_lt_of_le h.2 aV,a'.mono cb⟩
theorem aeI{w:World}{c7 ar:Nat}{v:Value}{N:List cy}(h:hy 0 w c7 ar v N)(hq:N≠[])(hF:ar<=w.heap.size):
 ∃b gH bn,v=ptr b 0/\Row w b 0 [gH]/\b<w.heap.size/\aq fx w (λb=>b<w.heap.size) gH bn/\jY w (λb=>b<w.heap.size) bn N:=by
 rcases h with ⟨_,h⟩|⟨b,gH,bn,h1,ah,aB,bH,c_⟩
 . exact absurd h hq
 . exact⟨b,gH,bn,h1,aB.2.2,Nat.lt_of_lt_of_le aB.2.1 hF,bH.mono λb q=>Nat.lt_of_lt_of_le q.2 hF,c_.mono λb q=>Nat.lt_of_lt_of_le q.2 hF⟩
theorem au.UG{R:Nat->Prop}{w0 w:World}{L:List (dr R)}{i:Nat}{v:Value}{N:List cy}(h:au R (λ_=>False) w0 w L)(ar:L[i]?=some (wu v N))(hq:N≠[]):∃c7 up,hy 0 w c7 up v N/\w0.heap.size<=c7/\up<=w.heap.size:=by
 obtain⟨F,⟨c7,up,h1,ah,bH⟩,aB,_⟩:=h.act ar;refine⟨c7,up,h1,?_,ah⟩;rcases h1 with ⟨_,h1⟩|⟨b,gH,bn,bt,cD,⟨dK,hs,jA⟩,p4,o3⟩
 . exact absurd h1 hq
 . exact(aB c7 (bH c7 (Nat.le_refl _) aa)).1.1.resolve_left id
end Go.aG
namespace Go.aG
open Go Go.ak
def UH{R:Nat->Prop}(aeJ Im iy aeK rI MK:Nat)(l_ e7 iE h6 ez:Nat)(s:List aj×Bool):dr R:=bh [aw l_ [.bool s.2] aeJ,qv Im rI 1 cx e7 s.1,aw iE [ptr ez 0] iy,aw h6 [.func (.func MK) #[] #[ptr l_ 0,ptr e7 0,ptr iE 0,ptr h6 0]] aeK]
def UI{R:Nat->Prop}(t1 t3 p5 t4 MK:Nat)(aL bx bI ez:Nat)(nI:Value)(st:List Int):dr R:=bh [aw aL [ptr ez 0] t1,aw bx [nI] t3,aP aG.encI p5 1 nI st,aw bI [.func (.func MK) #[] #[ptr aL 0,ptr bx 0,ptr bI 0]] t4]
end Go.aG
namespace Go.aG
open Go
theorem AN{P:Program}{f:FuncId}{r:List Value}{w:World}{K:Ending->World->Prop}{n:Nat}{m:Int}(h:Calls P f (.int .i64 (n:Int)::r).toArray w K)(aR:m=(n:Int)):Calls P f (.int .i64 m::r).toArray w K:=by subst aR;exact h
end Go.aG
namespace Go.ak
open Go.aG
def rQ(b:List UInt8)(n:Nat)(dG:Int×Bool)(i:Nat)(N:List cy)(s:Int×Bool):Prop:=k8 b n dG=(N++(k8 b (n-i) s).1,(k8 b (n-i) s).2)
theorem rQ.start(b:List UInt8)(n:Nat)(s:Int×Bool):rQ b n s 0 [] s:=by unfold rQ;simp
theorem rQ.step{b:List UInt8}{n i:Nat}{dG:Int×Bool}{a:Int}{N:List cy}{e:cy}{jT:Int×Bool}(h:rQ b n dG i N (a,false))(ar:i<n)(he:(e,jT)=l9 b (a,false)):rQ b n dG (i+1) (N++[e]) jT:=by
 unfold rQ at *;rw[h];obtain⟨m,hm⟩:∃m,n-i=m+1:=⟨n-i-1,by omega⟩;rw[hm,show n-(i+1)=m from by omega]
 conv=>lhs;unfold k8
 rw[if_neg dh,<-he];simp
theorem rQ.bad{b:List UInt8}{n i:Nat}{dG:Int×Bool}{a:Int}{N:List cy}(h:rQ b n dG i N (a,true)):k8 b n dG=(N,(a,true)):=by
 unfold rQ at h;rw[h]
 cases n-i with
 | zero=>simp[k8]
 | succ m=>unfold k8;simp
theorem rQ.fin{b:List UInt8}{n i:Nat}{dG:Int×Bool}{N:List cy}{s:Int×Bool}(h:rQ b n dG i N s)(ar:n<=i):k8 b n dG=(N,s):=by
 unfold rQ at h;rw[show n-i=0 from by omega] at h;rw[h];simp[k8]
theorem UJ(b:List UInt8):∀(n:Nat) (s:Int×Bool),(kq b n s).1.length<=n
 | 0,s=>by simp[kq]
 | n+1,s=>by
  unfold kq
  split
  . simp
  . simp only[List.length_cons];have:=UJ b n (rO b s).2;omega
theorem aeL(b:List UInt8)(s:Int×Bool):(l9 b s).1.2.length<=65535:=by
 unfold l9;simp only;generalize cO:eb b 2 ((eb b 1 s).2.1,(eb b 1 s).2.2 || decide ((eb b 1 s).1>1))=z;obtain⟨aeM,z2,z3⟩:=z;have ah:=AM cO aa;have h1:=UJ b aeM.toNat (z2,z3);simp only;omega
theorem Io{b:List UInt8}{size:Nat}{s:Int×Bool}(aT:size<=4)(ay:0<=s.1/\s.1<=b.length):0<=(eb b size s).2.1/\(eb b size s).2.1<=b.length:=by
 have:=q6 (a:=s.1) (q:=s.2) aT ay (f:=(eb b size s).1) (a2:=(eb b size s).2.1) (q2:=(eb b size s).2.2) rfl;omega
theorem aeN{b:List UInt8}{s:Int×Bool}(ay:0<=s.1/\s.1<=b.length):0<=(rO b s).2.1/\(rO b s).2.1<=b.length:=by
 unfold rO;exact Io aa (Io aa ay)
theorem UK{b:List UInt8}:∀(n:Nat) (s:Int×Bool),0<=s.1/\s.1<=b.length->0<=(kq b n s).2.1/\(kq b n s).2.1<=b.length
 | 0,s,ay=>ay
 | n+1,s,ay=>by
  unfold kq
  split
  . exact ay
  . exact UK n _ (aeN ay)
theorem aeO{b:List UInt8}{a a2:Int}{q q2:Bool}{x:cy}(ay:0<=a/\a<=b.length)(h:(x,(a2,q2))=l9 b (a,q)):0<=a2/\a2<=b.length:=by
 have:(l9 b (a,q)).2.1=a2:=by rw[<-h]
 rw[<-this];unfold l9;exact UK _ _ (Io (s:=(_,_)) aa (Io (s:=(_,_)) aa ay))
def iz(b:List UInt8):List cy×Int:=
 if b.length<4 then([],9) else
 if ¬ j6 b ((b.length:Int)-4) 4=(kB (b.take (b.length-4)):Int) then([],9) else
 if b.length-4<4\/¬ b.take 4=[73,78,75,49] then([],8) else
 if (k8 (b.take (b.length-4)) (eb (b.take (b.length-4)) 2 (4,false)).1.toNat (eb (b.take (b.length-4)) 2 (4,false)).2).2.2=true\/¬ (k8 (b.take (b.length-4)) (eb (b.take (b.length-4)) 2 (4,false)).1.toNat (eb (b.take (b.length-4)) 2 (4,false)).2).2.1=(b.length:Int)-4 then([],8) else
 if ly (k8 (b.take (b.length-4)) (eb (b.take (b.length-4)) 2 (4,false)).1.toNat (eb (b.take (b.length-4)) 2 (4,false)).2).1=[] then([],8) else
 (ly (k8 (b.take (b.length-4)) (eb (b.take (b.length-4)) 2 (4,false)).1.toNat (eb (b.take (b.length-4)) 2 (4,false)).2).1,0)
section
variable {b:List UInt8}
theorem Ip(h:b.length<4):iz b=([],9):=by unfold iz;rw[if_pos h]
theorem CI(h1:¬ b.length<4)(ah:¬ j6 b ((b.length:Int)-4) 4=(kB (b.take (b.length-4)):Int)):iz b=([],9):=by unfold iz;rw[if_neg h1,if_pos ah]
theorem ML(h1:¬ b.length<4)(ah:j6 b ((b.length:Int)-4) 4=(kB (b.take (b.length-4)):Int))(aB:b.length-4<4\/¬ b.take 4=[73,78,75,49]):iz b=([],8):=by unfold iz;rw[if_neg h1,if_neg (λk=>k ah),if_pos aB]
variable {N:List cy} {a c a0:Int} {q q0:Bool}
theorem Iq(h1:¬ b.length<4)(ah:j6 b ((b.length:Int)-4) 4=(kB (b.take (b.length-4)):Int))(aB:¬ (b.length-4<4\/¬ b.take 4=[73,78,75,49]))(bH:(c,(a0,q0))=eb (b.take (b.length-4)) 2 (4,false))(c_:k8 (b.take (b.length-4)) c.toNat (a0,q0)=(N,(a,q)))(e1:q=true\/¬ a=(b.length:Int)-4):iz b=([],8):=by
 unfold iz;rw[if_neg h1,if_neg (λk=>k ah),if_neg aB,<-bH];simp only[c_];rw[if_pos e1]
theorem UL(h1:¬ b.length<4)(ah:j6 b ((b.length:Int)-4) 4=(kB (b.take (b.length-4)):Int))(aB:¬ (b.length-4<4\/¬ b.take 4=[73,78,75,49]))(bH:(c,(a0,q0))=eb (b.take (b.length-4)) 2 (4,false))(c_:k8 (b.take (b.length-4)) c.toNat (a0,q0)=(N,(a,q)))(e1:¬ (q=true\/¬ a=(b.length:Int)-4))(kz:ly N=[]):iz b=([],8):=by
 unfold iz;rw[if_neg h1,if_neg (λk=>k ah),if_neg aB,<-bH];simp only[c_];rw[if_neg e1,if_pos kz]
theorem MM(h1:¬ b.length<4)(ah:j6 b ((b.length:Int)-4) 4=(kB (b.take (b.length-4)):Int))(aB:¬ (b.length-4<4\/¬ b.take 4=[73,78,75,49]))(bH:(c,(a0,q0))=eb (b.take (b.length-4)) 2 (4,false))(c_:k8 (b.take (b.length-4)) c.toNat (a0,q0)=(N,(a,q)))(e1:¬ (q=true\/¬ a=(b.length:Int)-4))(kz:ly N≠[]):iz b=(ly N,0):=by
 unfold iz;rw[if_neg h1,if_neg (λk=>k ah),if_neg aB,<-bH];simp only[c_];rw[if_neg e1,if_neg kz]
end
end Go.ak
namespace Go.aG
open Go Go.ak
def AO{R:Nat->Prop}(bn:List c')(N:List cy):dr R:=⟨λF w=>jY w F bn N,λh hm bs _=>h.keep hm bs⟩
theorem aeP{R F:Nat->Prop}{w:World}{e:TypeId}{bn:List c'}{N:List cy}{x:c'}{n:cy}{v:Value}{es:List cd}(cK:v=x.e.val)(bD:x.fin=n.1)(aR:es=n.2)(h:(bh (R:=R) [AO bn N,aP e2 e 2 v es]).p F w):(AO (R:=R) (bn++[x]) (N++[n])).p F w:=by
 obtain⟨fs,bz,h1,ah,aB,bH⟩:=u9 h;exact c3.app (jY.mono h1 aB) (.cons ⟨bD,cK▸aR▸(td ah).mono bH⟩ .nil)
end Go.aG
namespace Go.ak
open Go.aG
theorem wrap_small{x:Int}(bK:0<=x)(h:x<4294967296):IntKind.u64.wrap x=x:=by
 have:(IntKind.u64.wrap x)=x % 18446744073709551616:=by unfold IntKind.wrap;rfl
 rw[this];omega
theorem UM{x:Int}(bK:0<=x)(h:x<256):fk x 1=[gC x]:=by
 unfold fk;rw[wrap_small bK aa];simp[List.range_succ]
theorem UN{x:Int}(bK:0<=x)(h:x<65536):fk x 2=[gC (x / 256),gC x]:=by
 unfold fk;rw[wrap_small bK aa];simp[List.range_succ]
theorem UO{x:Int}(bK:0<=x)(h:x<4294967296):fk x 4=[gC (x / 16777216),gC (x / 65536),gC (x / 256),gC x]:=by
 unfold fk;rw[wrap_small bK aa];simp[List.range_succ]
theorem aeQ{x:Int}(bK:0<=x)(h:x<256):(kV (fk x 1):Int)=x:=by
 rw[UM bK h];have h1:=u6 x;simp only[kV,List.foldl_cons,List.foldl_nil];omega
theorem aeR{x:Int}(bK:0<=x)(h:x<65536):(kV (fk x 2):Int)=x:=by
 rw[UN bK h];have h1:=u6 x;have ah:=u6 (x / 256);simp only[kV,List.foldl_cons,List.foldl_nil];omega
theorem aeS{x:Int}(bK:0<=x)(h:x<4294967296):(kV (fk x 4):Int)=x:=by
 rw[UO bK h];have h1:=u6 x;have ah:=u6 (x / 256);have aB:=u6 (x / 65536);have bH:=u6 (x / 16777216);simp only[kV,List.foldl_cons,List.foldl_nil];omega
theorem AP{n:Int}{b:UInt8}(h:n % 256=(b.toNat:Int)):gC n=b:=by
 apply UInt8.toNat_inj.1;have:=u6 n;omega
theorem aeT{l:List UInt8}(h:l.length=1):fk (kV l) 1=l:=by
 match l,h with
 | [a],_ =>
  have ay:=a.toNat_lt;have aR:(kV [a]:Int)=a.toNat:=(by simp only[kV,List.foldl_cons,List.foldl_nil];omega);rw[UM aa aa,aR,AP (b:=a) aa]
theorem aeU{l:List UInt8}(h:l.length=2):fk (kV l) 2=l:=by
 match l,h with
 | [a,b],_ =>
  have ay:=a.toNat_lt;have ab:=b.toNat_lt;have aR:(kV [a,b]:Int)=a.toNat*256+b.toNat:=(by simp only[kV,List.foldl_cons,List.foldl_nil];omega);rw[UN aa aa,aR,AP (b:=a) aa,AP (b:=b) aa]
theorem aeV{l:List UInt8}(h:l.length=4):fk (kV l) 4=l:=by
 match l,h with
 | [a,b,c,d],_ =>
  have ay:=a.toNat_lt;have ab:=b.toNat_lt;have al:=c.toNat_lt;have hd:=d.toNat_lt;have aR:(kV [a,b,c,d]:Int)=((a.toNat*256+b.toNat)*256+c.toNat)*256+d.toNat:=(by simp only[kV,List.foldl_cons,List.foldl_nil];omega);rw[UO aa aa,aR,AP (b:=a) aa,AP (b:=b) aa,AP (b:=c) aa,AP (b:=d) aa]
def xE(n:Nat):Prop:=n=1\/n=2\/n=4
theorem UP{x:Int}{n:Nat}(aR:xE n)(bK:0<=x)(h:x<256 ^ n):(kV (fk x n):Int)=x:=by
 rcases aR with rfl|rfl|rfl
 . exact aeQ bK aa
 . exact aeR bK aa
 . exact aeS bK aa
theorem MN{l:List UInt8}{n:Nat}(aR:xE n)(h:l.length=n):fk (kV l) n=l:=by
 rcases aR with rfl|rfl|rfl
 . exact aeT h
 . exact aeU h
 . exact aeV h
theorem ub{b p r:List UInt8}{a:Nat}(h:b.drop a=p++r):b.drop (a+p.length)=r:=by
 rw[<-List.drop_drop,h];simp
theorem aeW{b p r:List UInt8}{a:Nat}(h:b.drop a=p++r)(hp:p≠[]):a+p.length<=b.length:=by
 have h1:=congrArg List.length h;rw[List.length_drop,List.length_append] at h1;have:0<p.length:=List.length_pos_iff.2 hp
 omega
theorem vb{b r:List UInt8}{a n:Nat}{x:Int}{q:Bool}(h:b.drop a=fk x n++r)(aR:xE n)(bK:0<=x)(ag:x<256 ^ n):eb b n ((a:Int),q)=(x,(((a+n:Nat):Int),q)):=by
 have bl:=im x n
 have h1:a+n<=b.length:=by
  have:=aeW h (by intro e;rw[e] at bl;unfold xE at aR;simp at bl;omega)
  rwa[bl] at this
 have bW:mK b (a:Int) (n:Int)=true:=(by unfold mK;unfold xE at aR;exact decide_eq_true ⟨by omega,by omega,by omega,by omega,by omega⟩);rw[va bW]
 have cK:j6 b (a:Int) (n:Int)=x:=by
  unfold j6
  rw[if_pos bW]
  simp only[Int.toNat_natCast]
  rw[h,List.take_left' bl]
  exact UP aR bK ag
 rw[cK];rfl
def yY(e:cd):Prop:=0<=e.rune/\e.rune<=1114111/\0<=e.to/\e.to<65536
theorem wrap32{x:Int}(bK:0<=x)(h:x<=1114111):IntKind.i32.wrap x=x:=by
 have hm:x % 4294967296=x:=(by omega);have ab:(2:Int) ^ IntKind.i32.bits=4294967296:=rfl;have aT:(2:Int) ^ (IntKind.i32.bits-1)=2147483648:=rfl;unfold IntKind.wrap;simp only[ab,aT,hm];rw[if_neg];simp only[Bool.and_eq_true,decide_eq_true_eq];omega
theorem MO(e:cd):(l8 e).length=6:=by unfold l8;simp[im]
theorem aeX{b r:List UInt8}{a:Nat}{e:cd}(h:b.drop a=l8 e++r)(he:yY e):rO b ((a:Int),false)=(e,(((a+6:Nat):Int),false)):=by
 obtain⟨h1,ah,aB,bH⟩:=he;unfold l8 at h;rw[List.append_assoc] at h;have bt:=vb (q:=false) h (.inr (.inr rfl)) h1 aa;have cD:=ub h;rw[im] at cD;have dK:=vb (q:=false) cD (.inr (.inl rfl)) aB aa;unfold rO;simp only[bt];rw[show(false || decide (e.rune>1114111))=false from by simp;omega];simp only[dK];rw[wrap32 h1 ah]
theorem UQ{b:List UInt8}:∀(es:List cd) (a:Nat) (r:List UInt8),b.drop a=es.flatMap l8++r->(∀e∈es,yY e)->kq b es.length ((a:Int),false)=(es,(((a+6*es.length:Nat):Int),false))
 | [],a,r,h,_=>by simp[kq]
 | e::es,a,r,h,he=>by
  rw[List.flatMap_cons,List.append_assoc] at h
  have bt:=aeX h (he e dh)
  have cD:=ub h
  rw[MO] at cD
  have dK:=UQ es (a+6) r cD (λe h=>he e (by simp[h]))
  rw[List.length_cons]
  conv=>lhs;unfold kq
  rw[if_neg dh,bt]
  simp only[dK]
  rw[show a+6+6*es.length=a+6*(es.length+1) from by omega]
def xF(x:cy):Prop:=x.2.length<65536/\∀e∈x.2,yY e
def uc(x:cy):Nat:=3+6*x.2.length
theorem UR:∀es:List cd,(es.flatMap l8).length=6*es.length
 | []=>rfl
 | e::es=>by rw[List.flatMap_cons,List.length_append,UR es,MO,List.length_cons];omega
theorem MP(x:cy):(kC x).length=uc x:=by unfold kC uc;simp only[List.length_append,im,UR]
theorem aeY{b r:List UInt8}{a:Nat}{x:cy}(h:b.drop a=kC x++r)(ag:xF x):l9 b ((a:Int),false)=(x,(((a+uc x:Nat):Int),false)):=by
 obtain⟨h1,ah⟩:=ag;unfold kC at h;rw[List.append_assoc,List.append_assoc] at h;have ab:(0:Int)<=(if x.1=true then 1 else 0)/\(if x.1=true then 1 else 0:Int)<=1:=(by split<;>omega);have bt:=vb (q:=false) h (.inl rfl) ab.1 aa;have cD:=ub h;rw[im] at cD;have dK:=vb (q:=false) cD (.inr (.inl rfl)) aa aa;have hs:=ub cD;rw[im] at hs;have jA:=UQ x.2 _ _ hs ah;unfold l9;simp only[bt];rw[show(false || decide ((if x.1=true then 1 else 0:Int)>1))=false from by rw[Bool.false_or];exact decide_eq_false aa];simp only[dK,Int.toNat_natCast,jA];rw[show a+1+2+6*x.2.length=a+uc x from by unfold uc;omega];have:decide ((if x.1=true then 1 else 0:Int)=1)=x.1:=by cases x.1<;>decide
 rw[this]
def sr(N:List cy):Nat:=(N.map uc).sum
theorem US{b:List UInt8}:∀(N:List cy) (a:Nat) (r:List UInt8),b.drop a=N.flatMap kC++r->(∀x∈N,xF x)->k8 b N.length ((a:Int),false)=(N,(((a+sr N:Nat):Int),false))
 | [],a,r,h,_=>by simp[k8,sr]
 | x::N,a,r,h,ag=>by
  rw[List.flatMap_cons,List.append_assoc] at h
  have bt:=aeY h (ag x dh)
  have cD:=ub h
  rw[MP] at cD
  have dK:=US N (a+uc x) r cD (λe h=>ag e (by simp[h]))
  rw[List.length_cons]
  conv=>lhs;unfold k8
  rw[if_neg dh,bt]
  simp only[dK]
  rw[show a+uc x+sr N=a+sr (x::N) from by unfold sr;simp only[List.map_cons,List.sum_cons];omega]
theorem UT:∀N:List cy,(N.flatMap kC).length=sr N
 | []=>rfl
 | x::N=>by rw[List.flatMap_cons,List.length_append,UT N,MP];unfold sr;simp only[List.map_cons,List.sum_cons]
theorem aeZ(N:List cy):(hJ N).length=6+sr N:=by
 unfold hJ;simp only[List.length_append,im,UT,List.length_cons,List.length_nil]
theorem ae0{N:List cy}(bl:N.length<65536)(hq:∀x∈N,xF x)(hm:ly N≠[]):iz (kW N)=(ly N,0):=by
 have ab:(kW N).length=(hJ N).length+4:=(by unfold kW xz;rw[List.length_append,im]);have kr:=aeZ N;have a_:(kW N).take ((kW N).length-4)=hJ N:=(by rw[ab];unfold kW xz;simp);have aT:=CA 0 (hJ N)
 have ah:j6 (kW N) (((kW N).length:Int)-4) 4=(kB ((kW N).take ((kW N).length-4)):Int):=by
  rw[a_]
  have hd:(kW N).drop (hJ N).length=fk (kB (hJ N)) 4++[]:=by unfold kW xz;simp
  have:=vb (q:=false) hd (.inr (.inr rfl)) aa (by change (AI 0 (hJ N):Int)<_;omega)
  rw[show((kW N).length:Int)-4=((hJ N).length:Int) from by omega]
  have bW:mK (kW N) ((hJ N).length:Int) 4=true:=by unfold mK;exact decide_eq_true ⟨by omega,by omega,by omega,by omega,by omega⟩
  rw[show(4:Nat)=4 from rfl,va bW] at this
  exact congrArg Prod.fst this
 have aB:¬ ((kW N).length-4<4\/¬ (kW N).take 4=[73,78,75,49]):=by
  intro h
  rcases h with h|h
  . omega
  . exact h (by unfold kW xz hJ;simp)
 have EY:(hJ N).drop 4=fk N.length 2++N.flatMap kC:=(by unfold hJ;simp);have bH:=vb (q:=false) EY (.inr (.inl rfl)) aa aa;have EZ:=ub EY;rw[im] at EZ;have c_:=US N 6 [] (by rw[EZ];simp) hq;have fU:eb ((kW N).take ((kW N).length-4)) 2 (4,false)=((N.length:Int),(((6:Nat):Int),false)):=(by rw[a_];exact bH);refine MM (c:=N.length) (a0:=((6:Nat):Int)) (q0:=false) (a:=((6+sr N:Nat):Int)) (q:=false) aa ah aB fU.symm (by rw[a_,Int.toNat_natCast];exact c_) (λh=>?_) hm;rcases h with h|h
 . cases h
 . exact h aa
end Go.ak
namespace Go.ak
open Go.aG
def mr:List aj->Nat
 | []=>0
 | t::r=>max (hg t).length (mr r)
theorem UU:∀{l:List aj} {t:aj},t∈l->(hg t).length<=mr l
 | a::r,t,h=>by
  unfold mr
  rcases List.mem_cons.1 h with rfl|h
  . omega
  . have:=UU h;omega
theorem MQ:∀{l:List aj},l≠[]->∃t∈l,(hg t).length=mr l
 | [a],_=>⟨a,by simp,by unfold mr mr;omega⟩
 | a::b::r,_=>by
  obtain⟨t,h1,ah⟩:=MQ (l:=b::r) dh
  have e:mr (a::b::r)=max (hg a).length (mr (b::r)):=by rw[mr]
  rcases Nat.le_total (hg a).length (mr (b::r)) with h|h
  . exact⟨t,by simp[List.mem_cons.1 h1],by rw[ah,e];omega⟩
  . exact⟨a,by simp,by rw[e];omega⟩
theorem UW{l:List aj}{n:Nat}(h:Deep n l):mr l<=n:=by
 by_cases bl:l=[]
 . subst bl;exact Nat.zero_le _
 . obtain⟨t,h1,ah⟩:=MQ bl;rw[<-ah];exact h t h1
theorem CJ{r:List aj}(a':gv r){g:Nat×List aj}(aV:g∈ha (fG r)):kN g.1/\g.2≠[]/\gv g.2/\∀t∈g.2,en g.1++t∈r:=by
 have hd:=u2 a';have ok:=xu _ _ (Nat.le_refl _) hd.1 hd.2;have h1:=ok.fQ g aV;refine⟨h1.1,h1.2.1,h1.2.2,λt a_=>Au ?_⟩;rw[<-ok.all];exact List.mem_flatMap.2 ⟨g,aV,List.mem_map.2 ⟨t,a_,rfl⟩⟩
theorem E0{r:List aj}(a':gv r){g:Nat×List aj}(aV:g∈ha (fG r)):mr g.2+1<=mr r:=by
 obtain⟨h1,ah,_,bH⟩:=CJ a' aV;obtain⟨t,bt,cD⟩:=MQ ah;have:=UU (bH t bt);rw[wb h1] at this;simp only[List.length_cons] at this;omega
theorem UX{P:List aj->Prop}{add:c9->List aj->c9×Nat}:∀(gs:List (Nat×List aj)) (s:c9),(∀g∈gs,∀s,(∀y∈s,P y.1)->∀y∈(add s g.2).1,P y.1)->(∀y∈s,P y.1)->∀y∈(lM add s gs).1,P y.1
 | [],s,_,aT=>aT
 | g::gs,s,h,aT=>by
  show ∀y∈(lM add (add s g.2).1 gs).1,_
  exact UX gs _ (λfz s6=>h fz (by simp[s6])) (h g dh s aT)
theorem UY{P:List aj->Prop}(UZ:∀r,P r->∀g∈ha (fG r),P g.2):∀(f:Nat) (s:c9) (aI:List aj),(∀y∈s,P y.1)->P aI->∀y∈(e3 f s aI).1,P y.1
 | 0,s,aI,aT,_=>aT
 | f+1,s,aI,aT,a'=>by
  unfold e3
  cases ar:s.findIdx? λx=>x.1==aI with
  | some i=>exact aT
  | none =>
   have h1:=UX (add:=e3 f) (P:=P) (ha (fG aI)) (s++[(aI,[])]) (λg iM jT Ac=>UY UZ f jT g.2 Ac (UZ _ a' g iM)) (λy aE=>by
    rcases List.mem_append.1 aE with aE|aE
    . exact aT y aE
    . simp only[List.mem_singleton] at aE;subst aE;exact a')
   intro y aE
   rcases List.mem_or_eq_of_mem_set aE with aE|rfl
   . exact h1 y aE
   . exact a'
theorem ae1{words:List aj}(h:e6 words=0):∀y∈s5 words,mr y.1<=mr words:=by
 have aV:=s8 h;have:=UY (P:=λr=>gv r/\mr r<=mr words) (λr a' g iM=>⟨(CJ a'.1 iM).2.2.1,by have:=E0 a'.1 iM;omega⟩) 13 [] words dh ⟨aV.1,Nat.le_refl _⟩;exact λy aE=>(this y aE).2
def qz(l:List aj):Nat:=(l.map λt=>(hg t).length).sum
theorem ae2(a b:List aj):qz (a++b)=qz a+qz b:=by unfold qz;simp
theorem U0{c:Nat}(al:kN c):∀l:List aj,qz (l.map (en c++·))=l.length+qz l
 | []=>rfl
 | t::l=>by
  have:=U0 al l
  unfold qz at *
  simp only[List.map_cons,List.sum_cons,List.length_cons] at *
  rw[wb al,this]
  simp only[List.length_cons];omega
def CK(gs:List (Nat×List aj)):Nat:=(gs.map λg=>qz g.2+1).sum
theorem U1:∀(gs:List (Nat×List aj)),(∀g∈gs,kN g.1/\g.2≠[])->CK gs<=qz (gs.flatMap λg=>g.2.map (en g.1++·))
 | [],_=>by simp[CK]
 | g::gs,h=>by
  have h1:=U1 gs (λfz aV=>h fz (by simp[aV]))
  have ah:=h g dh
  have aB:=List.length_pos_iff.2 ah.2
  rw[List.flatMap_cons,ae2,U0 ah.1]
  unfold CK at *
  simp only[List.map_cons,List.sum_cons];omega
theorem ae3(l:List aj):qz (fG l)<=qz l:=by
 cases l with
 | nil=>exact Nat.le_refl _
 | cons a r=>cases a<;>simp[fG,qz]
theorem U2{add:c9->List aj->c9×Nat}:∀(gs:List (Nat×List aj)) (s:c9),(∀g∈gs,∀s,(add s g.2).1.length<=s.length+1+qz g.2)->(lM add s gs).1.length<=s.length+CK gs
 | [],s,_=>by simp[lM,CK]
 | g::gs,s,h=>by
  have h1:=h g dh s
  have ah:=U2 gs (add s g.2).1 (λfz s6=>h fz (by simp[s6]))
  show(lM add (add s g.2).1 gs).1.length<=_
  unfold CK at ah ⊢
  simp only[List.map_cons,List.sum_cons]
  omega
theorem U3:∀(f:Nat) (s:c9) (aI:List aj),gv aI->(e3 f s aI).1.length<=s.length+1+qz aI
 | 0,s,aI,_=>by simp[e3];omega
 | f+1,s,aI,aV=>by
  unfold e3
  cases ar:s.findIdx? λx=>x.1==aI with
  | some i=>simp;omega
  | none =>
   simp only[List.length_set]
   have hd:=u2 aV
   have ok:=xu _ _ (Nat.le_refl _) hd.1 hd.2
   have h1:=U2 (add:=e3 f) (ha (fG aI)) (s++[(aI,[])]) (λg iM jT=>U3 f jT g.2 (ok.fQ g iM).2.2)
   have ah:=U1 (ha (fG aI)) (λg iM=>⟨(ok.fQ g iM).1,(ok.fQ g iM).2.1⟩)
   rw[ok.all] at ah
   have aB:=ae3 aI
   simp only[List.length_append,List.length_cons,List.length_nil] at h1
   omega
theorem ae4{l:List aj}{m:Nat}(h:∀x∈l,(hg x).length<=m):qz l<=l.length*m:=by
 induction l with
 | nil=>simp[qz]
 | cons a l cc =>
  have h1:=h a dh;have ah:=cc λx ag=>h x (by simp[ag])
  unfold qz at *;rw[List.map_cons,List.sum_cons,List.length_cons,Nat.add_mul];omega
theorem ae5{words:List aj}(h:e6 words=0):(h' words).length<=721:=by
 rw[tZ h,u5];unfold o1;split
 . simp
 . obtain⟨h1,ah,_⟩:=wc h;have aB:=U3 13 [] words (s8 h).1;have bH:=ae4 (l:=words) (m:=12) λx ag=>(LV (ah x ag)).2.2
   unfold s5;simp only[List.length_nil] at aB;omega
theorem MR{α β:Type}{R:α->β->Prop}{a:List α}{b:List β}(h:c3 R a b):∀y∈b,∃x∈a,R x y:=by
 intro y aE;obtain⟨k,hk⟩:=List.mem_iff_getElem?.1 aE;have aV:=c3.get h;have hP:=(List.getElem?_eq_some_iff.1 hk).1;have ag:a[k]?=some (a[k]'(by rw[aV.1];exact hP)):=(by simp);exact⟨_,List.mem_of_getElem? ag,aV.2 k _ _ ag hk⟩
theorem U4{g:List Int->cd->Bool×List Int}{Inv:List Int->Prop}:∀(l:List cd) (s:List Int),Inv s->(∀e∈l,∀s,Inv s->(g s e).1=true/\Inv (g s e).2)->(oc g s l).1=true/\Inv (oc g s l).2
 | [],s,h,_=>⟨rfl,h⟩
 | e::l,s,h,aV=>by
  obtain⟨h1,ah⟩:=aV e dh s h
  unfold oc
  rw[if_pos h1]
  exact U4 l _ ah λny he=>aV ny (by simp[he])
section
variable {s:c9}
theorem Ir{n:Nat}{y:List aj×List cd}(h:s[n]?=some y):(fV s)[n]?=some (jX y.1,y.2):=by simp[fV,h]
theorem ae6(l':∀y∈s,oZ s y/\gv y.1/\y.1≠[]):∀(f n:Nat) (d:Int) (st:List Int) (y:List aj×List cd),s[n]?=some y->0<=d->d+mr y.1<=12->13<=d+f->st.length=s.length ->
 (∀(m:Nat) (z:List aj×List cd),st[m]?=some 1->s[m]?=some z->mr y.1<mr z.1) ->
 (ir (fV s) (f+1) n d st).1=true/\∀m:Nat,(ir (fV s) (f+1) n d st).2[m]?=some 1->st[m]?=some 1:=by
 intro f
 induction f with
 | zero=>intro n d st y aR bK h1 ah _ _;omega
 | succ f cc =>
  intro n d st y aR bK h1 ah bl hu;obtain⟨al,aV,dL⟩:=l' y (List.mem_of_getElem? aR);have hP:=(List.getElem?_eq_some_iff.1 aR).1;obtain⟨v,cK⟩:∃v,st[n]?=some v:=⟨_,List.getElem?_eq_getElem aa⟩;by_cases ki:v=2
  . rw[EV (Ir aR) cK ki];exact⟨rfl,λm h=>h⟩
  . have fX:¬ (v=1\/d>12\/((jX y.1,y.2).1=false/\(jX y.1,y.2).2=[])):=by
     rintro(h|h|⟨aB,bH⟩)
     . subst h
       have:=hu n y cK aR
       omega
     . omega
     . apply dL
       simp only at aB bH
       have p1:ha (fG y.1)=[]:=List.eq_nil_of_length_eq_zero (by rw[(c3.get al).1,bH];rfl)
       have:=HM (x:=y) aV
       rw[aB,p1] at this
       simpa using this
    have key:=U4 (g:=λst e=>ir (fV s) (f+1) e.to.toNat (d+1) st) (Inv:=λIs=>Is.length=s.length/\∀m:Nat,Is[m]?=some 1->st[m]?=some 1\/m=n) y.2 (st.set n 1) ⟨by rw[List.length_set];exact bl,λm h=>by
     rw[List.getElem?_set] at h
     split at h
     . right;omega
     . left;exact h⟩ (λe he Is ⟨HO,He⟩=>by
     obtain⟨g,iM,aB,j,es,bH,c_⟩:=MR al e he
     have It:=E0 aV iM
     have bo:e.to.toNat=j:=by omega
     have:=cc j (d+1) Is (g.2,es) c_ aa (by simp only;omega) aa HO (λm z hm cO=>by
      rcases He m hm with h|h
      . have:=hu m z h cO;simp only;omega
      . subst h
        obtain rfl:y=z:=Option.some.inj (aR.symm.trans cO)
        simp only;omega)
     simp only[bo]
     refine⟨this.1,by rw[Ii];exact HO,λm hm=>He m (this.2 m hm)⟩)
    obtain⟨bt,cD,dK⟩:=key;rw[ME (Ir aR) cK ki fX rfl];simp only;rw[if_pos bt];refine⟨rfl,λm hm=>?_⟩;simp only at hm;rw[List.getElem?_set] at hm;split at hm
    . split at hm
      . simp at hm
      . cases hm
    . rename_i ary;rcases dK m hm with h|h
      . exact h
      . omega
theorem ae7{a:aj}{d:Int}{f:Nat}(MS:∀(n:Nat) (a:aj) (l:List aj) (y:List aj×List cd),s[n]?=some y->d+1+mr y.1<=12->l.length+y.1.length<=60->nH (fV s) f n a (d+1) (l,true)=(l++y.1.map (a++·),true)):
 ∀{gs:List (Nat×List aj)} {es:List cd},c3 (λg e=>e.rune=(g.1:Int)/\∃(j:Nat) (es:List cd),e.to=(j:Int)/\s[j]?=some (g.2,es)) gs es->(∀g∈gs,kN g.1/\d+1+mr g.2<=12)->∀l:List aj,l.length+(gs.flatMap λg=>g.2.map (en g.1++·)).length<=60 ->
  es.foldl (λjT e=>nH (fV s) f e.to.toNat (a++fC e.rune) (d+1) jT) (l,true)=(l++(gs.flatMap λg=>g.2.map (en g.1++·)).map (a++·),true):=by
 intro gs es h
 induction h with
 | nil=>intro _ l _;simp
 | @cons g e gs es yy a' f' =>
  intro aV l bl;obtain⟨h1,j,rG,ah,aB⟩:=yy;obtain⟨bt,cD⟩:=aV g dh;rw[List.flatMap_cons,List.length_append,List.length_map] at bl;rw[List.foldl_cons,show e.to.toNat=j from by omega,h1,yH bt,MS j _ l (g.2,rG) aB cD (by simp only;omega),f' (λfz s6=>aV fz (by simp[s6])) _ (by simp only[List.length_append,List.length_map];omega)];rw[List.flatMap_cons,List.map_append,List.map_map,List.append_assoc];congr 3
  apply List.map_congr_left;intro t _;simp
theorem ae8(l':∀y∈s,oZ s y/\gv y.1):∀(f n:Nat) (a:aj) (d:Int) (l:List aj) (y:List aj×List cd),s[n]?=some y->0<=d->d+mr y.1<=12->13<=d+f->l.length+y.1.length<=60->nH (fV s) (f+1) n a d (l,true)=(l++y.1.map (a++·),true):=by
 intro f
 induction f with
 | zero=>intro n a d l y aR bK h1 ah _;omega
 | succ f cc =>
  intro n a d l y aR bK h1 ah bl;obtain⟨al,aV⟩:=l' y (List.mem_of_getElem? aR);have fW:=HM (x:=y) aV;refine MI (by rintro(h|h|h);cases h;omega;omega) (Ir aR) rfl ?_;simp only;have hlen:=congrArg List.length fW;rw[List.length_append] at hlen;have key:=λCL tL=>ae7 (s:=s) (a:=a) (d:=d) (f:=f+1) (λn a l y aR hd bl=>cc n a (d+1) l y aR aa hd aa bl) al (λg iM=>⟨(CJ aV iM).1,by have:=E0 aV iM;omega⟩) CL tL
  cases bD:jX y.1 with
  | true =>
   rw[bD,if_pos rfl] at fW;rw[bD,if_pos rfl] at hlen;rw[if_pos rfl,key _ (by simp only[List.length_append,List.length_cons,List.length_nil] at hlen ⊢;omega)]
   conv=>rhs;rw[fW]
   simp
  | false =>
   rw[bD,if_neg b0] at fW;rw[bD,if_neg b0] at hlen;rw[if_neg b0,key _ (by simp only[List.length_nil] at hlen ⊢;omega)]
   conv=>rhs;rw[fW]
   simp
end
theorem ae9{words:List aj}(h:e6 words=0):CH (h' words)=some words:=by
 by_cases hw:words=[]
 . subst hw;rw[HX rfl];have aT:kh [(false,[])]=([],true):=(by decide);unfold CH;rw[aT];rw[if_pos ⟨by decide,by decide,by decide,by decide,rfl,by decide,HX rfl⟩]
 . have jI:=s8 h;have bW:=Cm jI.2 jI.1 hw;have fY:o1 words=s5 words:=(by unfold o1;rw[if_neg hw]);have hq:=tZ h;rw[fY] at hq;obtain⟨te,bK⟩:=bW.root;have ae_:=UW jI.2;have dN:=CE h
   have E1:kh (h' words)=(words,true):=by
    have:=ae8 (s:=s5 words) (λy aE=>⟨(bW.node y aE).we,(bW.node y aE).fQ⟩) 13 0 [] 0 [] (words,te) bK aa (by simp only;omega) aa (by have:=(wc h).1;simp only[List.length_nil];omega)
    unfold kh
    rw[hq,this]
    have Cb:=(wc h).1
    simp;exact Cb
   unfold CH;rw[E1];refine if_pos ⟨?_,by omega,ae5 h,?_,rfl,h,rfl⟩
   . rw[Ij];intro x ag e he;rw[hq] at ag;obtain⟨y,aE,rfl⟩:=List.mem_map.1 ag;obtain⟨g,iM,aB,j,es,bH,c_⟩:=MR (bW.node y aE).we e he;have bo:=(List.getElem?_eq_some_iff.1 c_).1;have It:=E0 (bW.node y aE).fQ iM;have arz:=ae1 h y aE;rw[hq,u5];refine⟨?_,by omega⟩;rcases Nat.eq_zero_or_pos j with cO|cO
     . subst cO;have:g.2=words:=congrArg Prod.fst (Option.some.inj (c_.symm.trans bK))
       rw[this] at It;omega
     . omega
   . unfold sq
     have:=ae6 (s:=s5 words) (λy aE=>⟨(bW.node y aE).we,(bW.node y aE).fQ,(bW.node y aE).ne⟩) 13 0 0 (List.replicate (h' words).length 0) (words,te) bK aa (by simp only;omega) aa (by rw[List.length_replicate,hq,u5]) (λm z hm _=>by
      rw[List.getElem?_replicate] at hm
      split at hm<;>simp at hm)
     rw[Bool.or_eq_true];right;rw[hq] at this ⊢;exact this.1
theorem U5{words:List aj}(h:e6 words=0):ly (h' words)=h' words:=by unfold ly;rw[ae9 h]
theorem U6{words:List aj}(h:e6 words=0):∀x∈h' words,xF x:=by
 have dN:=(CE h).2;intro x ag;refine⟨by have:=Uk h x ag;omega,λe he=>?_⟩;have bW:=Cz h;rw[tZ h] at ag dN;rw[u5] at dN;obtain⟨y,aE,rfl⟩:=List.mem_map.1 ag;obtain⟨g,iM,aB,j,es,bH,c_⟩:=MR (bW.node y aE).1 e he;have bo:=(List.getElem?_eq_some_iff.1 c_).1;have AH:=(CJ (bW.node y aE).2.1 iM).1;unfold kN at AH;exact⟨by omega,by omega,by omega,by omega⟩
theorem MT{words:List aj}(h:e6 words=0):iz (lx words)=(h' words,0):=by
 rw[<-CF h,ae0 (by have:=(CE h).2;omega) (U6 h) (by rw[U5 h];exact Ia h),U5 h]
end Go.ak
