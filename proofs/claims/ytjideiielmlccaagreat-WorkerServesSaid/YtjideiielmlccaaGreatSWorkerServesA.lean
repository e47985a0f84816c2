/-
  What the law WorkerServes needs, part 1 of 7: theory, and walks through the code. Names are said short.
-/
import Derived.WalkKit
import Derived.ProofKit
import Derived.Still
import Derived.KernelRfl
import Derived.Laws.Strings
import Derived.Laws.Small
import Derived.Laws.AppendOwn
import Derived.Lib.RuneCountTail
import Derived.Lib.Bytealg
import Derived.OpenShut
import Derived.SliceStrings
import Derived.Lib.SmallJoins
import Derived.Carry
import Derived.Laws.MakeOwn
import Derived.Laws.Pointers
import Derived.Laws.StructEq
import Derived.Lib.Join
import Derived.Room.Shelf.Join48
import Derived.Shelf.SlSortCmp.NoneTotal
import Derived.Shelf.SlicesE.Compact
import Derived.Laws.BytesArg
import Derived.Laws.IdiomStrings
import Derived.Laws.Cover4
import Derived.Laws.BitsAllLaws
import Derived.MapKept
import Derived.Deep.AppendSrc
import Derived.Test.YtjideiielmlccaaGreatProg
import Derived.Ground.NamesProg
set_option linter.unusedVariables false
set_option linter.unusedSimpArgs false
set_option maxRecDepth 20000
set_option maxHeartbeats 8000000
abbrev U(n:Int):Go.Value:=.int .i64 n
abbrev ad:Go.Value:=.int .i64 0
abbrev az:Nat->Prop:=λ_=>False
theorem cV{a b:Int}(h:a=b):Go.Value.int .i64 a=.int .i64 b:=congrArg _ h
theorem DE{p:Prop}(h:p:=by(intro z cS;simp at cS)):p:=h
section
variable {p:Prop}
theorem aQ(h:p:=by kernel_rfl):p:=h
theorem bj(h:p:=by repeat(first|exact trivial|refine⟨rfl,?_⟩)):p:=h
theorem aa(h:p:=by omega):p:=h
theorem er(h:p:=by first|(with_reducible exact hY)|(rw[<-hZ];rfl)|(exfalso;omega)):p:=h
theorem uP(h:p:=by first|(with_reducible exact ak.EA (by exact(a'.bad lb (by first|exact ak.SL lb|(with_reducible exact ak.SM aam)))))|(with_reducible exact(a'.bad lb (by first|exact ak.SL lb|(with_reducible exact ak.SM aam))))|(with_reducible exact(a'.fin lb).1.trans (ak.EB (a'.fin lb).2))|(with_reducible exact(a'.fin lb).2)|(exfalso;omega)):p:=h
theorem bd(h:p:=by assumption):p:=h
theorem lT(h:p:=by first|assumption|omega|(simp only[List.length_append,ie,List.length_cons,List.length_nil];omega)):p:=h
theorem am(h:p:=by first|omega|(simp only[List.length_append,List.length_cons,List.length_nil];omega)|(exfalso;omega)):p:=h
theorem e'(h:p:=by first|omega|(exfalso;omega)):p:=h
theorem ap(h:p:=by first|(simp only[List.length_append,List.length_cons,List.length_nil];omega)|(exfalso;omega)):p:=h
theorem eU(h:p:=by unfold maxLen;omega):p:=h
theorem c0(h:p:=by kernel_rfl):p:=h
theorem b5(h:p:=by decide):p:=h
theorem vI(h:p:=by first|omega|(simp only[List.length_append];omega)|(simp only[List.length_append,List.length_cons,List.length_nil];omega)):p:=h
theorem ox(h:p:=by first|assumption|exact ak.cE.HH (by decide +kernel)):p:=h
theorem di(h:p:=by simp):p:=h
theorem uE(h:p:=by simp only[List.length_append,List.length_cons];omega):p:=h
theorem dz(h:p:=by rfl):p:=h
theorem JZ(h:p:=by first|exact .inl nY|exact .inr (.inl nY)|exact .inr (.inr ⟨by assumption,by first|assumption|exact List.eq_nil_of_length_eq_zero pS⟩)):p:=h
theorem JC(h:p:=by first|(rw[ak.LU a_ (by simp[*]),List.length_append,<-ar];rfl)|(rw[ak.Es a_ (by simp[*])];exact ar)|(exfalso;omega)):p:=h
theorem Qr(h:p:=by first|(rw[<-aar.1];exact hl)|(rw[Ur n5,show aL.drop bF=l9 (dC aw) (aL.drop k) from by rw[<-oR,List.drop_drop];congr 1;omega];simp only[List.length_append];omega)|(exfalso;omega)):p:=h
theorem GR(h:p:=by first|omega|(simp only[List.length_append,List.length_cons,List.length_nil];omega)|(simp;omega)):p:=h
theorem KX(h:p:=by first|exact a'.next lb (ak.ac4 lb (by with_reducible assumption) lb lb) lb|(exfalso;omega)):p:=h
theorem JP(h:p:=by first|rw[oR];simp only[List.length_append,List.length_cons,List.length_nil];omega|(exfalso;omega)):p:=h
theorem D1(h:p:=by first|assumption|(unfold bY;omega)|(unfold bY;decide)):p:=h
theorem sP(h:p:=by exact Nat.zero_le _):p:=h
theorem J1(h:p:=by first|omega|(simp only[List.length_append,List.length_cons,List.length_nil];omega)):p:=h
theorem Dw(h:p:=by first|omega|(simp only[List.length_take];omega)):p:=h
theorem Dt(h:p:=by first|omega|(simp only[List.length_nil];omega)):p:=h
theorem Df(h:p:=by first|(symm;assumption)|simp|(exfalso;omega)):p:=h
theorem s4(h:p:=by first|assumption):p:=h
theorem Co(h:p:=by simp only[Bool.and_true,beq_iff_eq];omega):p:=h
theorem sM(h:p:=by first|omega|rfl):p:=h
theorem JO(h:p:=by first|rw[oR];simp only[List.length_append];omega|(exfalso;omega)):p:=h
theorem yh(h:p:=by first|rfl|simp[aF.encI]):p:=h
theorem K1(h:p:=by first|(with_reducible exact(ak.Um a_ bd).1)|(with_reducible exact(ak.Um a_ bd).2)|(with_reducible exact(ak.Un ax aT aa).1)|(with_reducible exact(ak.Un ax aT aa).2)|(exfalso;omega)):p:=h
theorem J0(h:p:=by intro h;rcases h with h|h|⟨h1,ag⟩;omega;omega;first|exact absurd (show false=true from h1.symm.trans nY) b5|(have:=congrArg List.length ag;simp only[List.length_nil] at this;omega)):p:=h
theorem JG(h:p:=by first|(with_reducible exact(ar.ret aa).1)|(with_reducible exact(ar.ret aa).2)|(with_reducible exact(ar.fin dL bd).1)|(with_reducible exact(ar.fin dL bd).2)|(exfalso;omega)):p:=h
theorem D7(h:p:=by first|exact Fs aa|exact NL (PJ fZ B0 (Gt xl xl)) aa):p:=h
theorem JQ(h:p:=by first|simp only[List.length_append];omega|(exfalso;omega)):p:=h
theorem be(h:p:=by first|(simp only[List.length_set];omega)|(exfalso;omega)):p:=h
theorem OI(h:p:=by first|omega|(simp only[List.length_append];omega)|(simp only[List.length_nil];omega)):p:=h
theorem bi(h:p:=by simp only[List.cons_append,List.nil_append,Cm,xy,List.length_cons];omega):p:=h
theorem JD(h:p:=by first|simp only[ak.within, *];simp|(exfalso;omega)):p:=h
theorem JF(h:p:=by first|simp only[ak.jf, *];rfl|(exfalso;omega)):p:=h
theorem Jz(h:p:=by first|simp only[ak.asked, *];simp|(exfalso;omega)):p:=h
theorem u0(h:p:=by simpa using ah):p:=h
theorem Jy(h:p:=by first|simp only[ak.word, *];simp|(exfalso;omega)):p:=h
theorem JM(h:p:=by rw[<-zs.1];simp only[List.length_nil];omega):p:=h
theorem Qs(h:p:=by first|exact aoL|(simp only[List.length_append];omega)|(exfalso;omega)):p:=h
theorem FQ(h:p:=by first|assumption|(symm;assumption)):p:=h
theorem Q6(h:p:=by first|assumption|exact oJ.A3 D' _ _ _|exact oJ.Y5 D' _):p:=h
end
namespace Go.aF
open Go
abbrev Env:=List (Nat×Value)
def mJ:Nat->Env->Option Value
 | _,[]=>none
 | i,p::r=>match Nat.beq i p.1 with
  | true=>some p.2
  | false=>mJ i r
def aP(E:Env):Operand->Option Value
 | .tmp t=>mJ t E
 | .const v=>some v
 | .global g=>some (.pointer (some ⟨g,0,none⟩))
 | .func f=>some (.func (.func f) #[] #[])
def Has(E:Env)(a:Act):Prop:=∀i v,mJ i E=some v->a.tmps.getD i undef=v
structure Sat(n:Nat)(E:Env)(a:Act):Prop where
 size:a.tmps.size=n
 defers:a.defers=[]
 has:Has E a
def pu:Option Tmp->Value->Env->Env
 | some d,v,E=>(d,v)::E
 | none,_,E=>E
def kj(n:Nat):Option Tmp->Bool
 | some d=>Nat.blt d n
 | none=>true
theorem Sat.put{n:Nat}{E:Env}{a:Act}(h:Sat n E a){d:Option Tmp}(hd:kj n d=true)(v:Value):Sat n (pu d v E) (a.put d v):=by
 cases d with
 | none=>exact h
 | some d =>
  have abB:d<n:=Nat.lt_of_succ_le (Nat.le_of_ble_eq_true hd);refine⟨by simp[Act.put,h.size],h.defers,λi u hu=>?_⟩;simp only[pu,mJ] at hu
  cases ab:Nat.beq i d with
  | true =>
   have:i=d:=Nat.eq_of_beq_eq_true ab
   subst this;simp only[ab] at hu;simp only[Option.some.injEq] at hu;subst hu;simp[Act.put,h.size,abB]
  | false =>
   simp only[ab] at hu;have dL:d≠i:=λe=>by subst e;simp[Nat.beq_refl] at ab
   have:=h.has i u hu;simpa[Act.put,Array.getElem?_setIfInBounds_ne dL] using this
theorem Has.aP{E:Env}{a:Act}(h:Has E a){x:Operand}{v:Value}(ah:aF.aP E x=some v):a.eval x=v:=by
 cases x with
 | tmp t=>exact h t v ah
 | const u=>simpa[aF.aP,Act.eval] using ah
 | global g=>simpa[aF.aP,Act.eval] using ah
 | func f=>simpa[aF.aP,Act.eval] using ah
def sub:Env->Env->Prop
 | [],_=>True
 | p::r,E=>mJ p.1 E=some p.2/\sub r E
theorem RB:∀{jd E:Env},sub jd E->∀i v,mJ i jd=some v->mJ i E=some v
 | [],_,_,_,_,h=>by simp[mJ] at h
 | p::r,E,⟨h1,ag⟩,i,v,h=>by
  simp only[mJ] at h
  cases ab:Nat.beq i p.1 with
  | true =>
   have:i=p.1:=Nat.eq_of_beq_eq_true ab
   simp only[ab] at h
   simp only[Option.some.injEq] at h
   rw[this,h1,h]
  | false =>
   simp only[ab] at h
   exact RB ag i v h
theorem Sat.sub{n:Nat}{E jd:Env}{a:Act}(h:Sat n E a)(aT:aF.sub jd E):Sat n jd a:=
 ⟨h.size,h.defers,λi v cN=>h.has i v (RB aT i v cN)⟩
structure Mod(M:Nat->Prop)(w an:World):Prop where
 os:an.os=w.os
 tape:an.tape=w.tape
 output:an.output=w.output
 size:w.heap.size<=an.heap.size
 keep:∀(b:Nat) (o:Obj),w.heap[b]?=some o->¬ M b->an.heap[b]?=some o
abbrev Ext(w an:World):Prop:=Mod (λ_=>False) w an
theorem Mod.refl(M:Nat->Prop)(w:World):Mod M w w:=⟨rfl,rfl,rfl,Nat.le_refl _,λ_ _ h _=>h⟩
theorem Mod.trans{M:Nat->Prop}{a b c:World}(h:Mod M a b)(k:Mod M b c):Mod M a c:=
 ⟨k.os.trans h.os,k.tape.trans h.tape,k.output.trans h.output,Nat.le_trans h.size k.size,λi o ar hm=>k.keep i o (h.keep i o ar hm) hm⟩
theorem Mod.weaken{M RC:Nat->Prop}{a b:World}(h:Mod M a b)(hm:∀i,M i->i<a.heap.size->RC i):Mod RC a b:=
 ⟨h.os,h.tape,h.output,h.size,λi o ar aN=>h.keep i o ar (λah=>aN (hm i ah (Array.getElem?_eq_some_iff.1 ar).1))⟩
theorem Mod.then{M N:Nat->Prop}{a b c:World}(h:Mod M a b)(k:Mod N b c)(hr:∀i,N i->i<a.heap.size->M i):Mod M a c:=
 ⟨k.os.trans h.os,k.tape.trans h.tape,k.output.trans h.output,Nat.le_trans h.size k.size,
  λi o ar hm=>k.keep i o (h.keep i o ar hm) (λah=>hm (hr i ah (Array.getElem?_eq_some_iff.1 ar).1))⟩
theorem Mod.ext{M:Nat->Prop}{a b c:World}(h:Mod M a b)(k:Ext b c):Mod M a c:=h.then k (λ_ h _=>h.elim)
theorem Ext.mod{a b:World}(h:Ext a b)(M:Nat->Prop):Mod M a b:=h.weaken (λ_ h _=>h.elim)
theorem Mod.drew(M:Nat->Prop)(w:World):Mod M w w.drew:=⟨rfl,rfl,rfl,Nat.le_refl _,λ_ _ h _=>h⟩
theorem Mod.alloc(M:Nat->Prop)(w:World)(o:Obj):Mod M w (w.alloc o):=
 ⟨rfl,rfl,rfl,by simp,λb x h _=>by
  have bk:=(Array.getElem?_eq_some_iff.1 h).1
  show(w.heap.push o)[b]?=_
  rw[Array.getElem?_push,if_neg aa];exact h⟩
theorem Mod.below{w an:World}(h:Ext w an):Go.RowKit.Below w.heap.size w an:=
 ⟨h.os,h.tape,h.output,h.size,λk hk=>by
  have e:w.heap[k]?=some w.heap[k]:=by simp[hk]
  rw[e];exact h.keep k _ e (λx=>x)⟩
theorem Mod.abC{w an:World}(h:Go.RowKit.Below w.heap.size w an):Ext w an:=
 ⟨h.os,h.tape,h.output,h.size,λb o ab _=>by rw[h.block b (Array.getElem?_eq_some_iff.1 ab).1];exact ab⟩
section
variable {P:Program} {f:FuncId} {R:Ending->World->Prop} {n:Nat}
def p2(P:Program)(f:FuncId)(R:Ending->World->Prop)(k:List Item)(a:Act)(w:World):Prop:=
 ∀b:Frame,b.fn=f->b.kind=.normal->∀cs,∃e an yC,R e an/\Comes P (lone (b.at a k) cs w) (lone yC cs an) e/\yC.fn=f/\yC.leaving P an e
theorem p2.head{k jz:List Item}{a:Act}{w:World}(aT:∀(b:Frame) cs,step P (lone (b.at a k) cs w)=.next (lone (b.at a jz) cs w))
 (h:p2 P f R jz a w):p2 P f R k a w:=λb bC hk cs =>
 let ⟨e,an,yC,fo,al,r⟩:=h b bC hk cs
 ⟨e,an,yC,fo,Comes.of_steps (.one (aT b cs)) al,r⟩
theorem RD{c:Code}{k:List Item}{a:Act}{w:World}(h:c.wp P (λe a w=>e=.normal/\p2 P f R k a w) a w):p2 P f R (.code c::k) a w:=by
 intro b bC hk cs;obtain⟨e,qW,an,⟨rfl,a'⟩,abD⟩:=h b k cs;obtain⟨e,xo,yC,fo,al,r⟩:=a' b bC hk cs;exact⟨e,xo,yC,fo,Comes.of_steps abD al,r⟩
theorem abE{fn:Func}{c:Code}{args:Array Value}{w:World}(bC:P.funcs[f]?=some fn)(ab:fn.body=some c)
 (h:p2 P f R [.code c] { tmps:=args++Array.replicate (fn.ntmps-args.size) undef,defers:=[] } w):Calls P f args w R:=by
 intro cs;let b:Frame:={ (default:Frame) with fn:=f,kind:=.normal }
 have abF:Frame.enter P f args .normal =
  b.at { tmps:=args++Array.replicate (fn.ntmps-args.size) undef,defers:=[] } [.code c]:=by
  simp[Frame.enter,Frame.at,bC,ab,b]
 rw[abF];exact h b rfl rfl cs
def hx(P:Program)(f:FuncId)(R:Ending->World->Prop)(n:Nat)(E:Env)(k:List Item)(w:World):Prop:=∀a,Sat n E a->p2 P f R k a w
theorem hx.sub{E jd:Env}{k:List Item}{w:World}(h:hx P f R n jd k w)(aT:aF.sub jd E):hx P f R n E k w:=λa ax=>h a (ax.sub aT)
theorem abG{E:Env}{x y:Code}{k:List Item}{w:World}(h:hx P f R n E (.code x::.code y::k) w):hx P f R n E (.code (.seq x y)::k) w:=
 λa ax=>p2.head (λ_ _=>step_seq) (h a ax)
theorem abH{E:Env}{k:List Item}{w:World}(h:hx P f R n E k w):hx P f R n E (.code .skip::k) w:=
 λa ax=>p2.head (λ_ _=>step_skip) (h a ax)
theorem abI{E:Env}{id:Nat}{c:Code}{k:List Item}{w:World}(h:hx P f R n E (.code c::.inBlock id::k) w):hx P f R n E (.code (.block id c)::k) w:=
 λa ax=>p2.head (λ_ _=>step_block) (h a ax)
theorem abJ{E:Env}{id:Nat}{k:List Item}{w:World}(h:hx P f R n E k w):hx P f R n E (.inBlock id::k) w:=
 λa ax=>p2.head (λ_ _=>step_inBlock) (h a ax)
theorem abK{E:Env}{id:Nat}{k jz:List Item}{w:World}(hk:exitTo id k=some jz)(h:hx P f R n E jz w):hx P f R n E (.code (.exit id)::k) w:=
 λa ax=>p2.head (λ_ _=>step_exit hk) (h a ax)
theorem abL{E:Env}{c:Operand}{x y:Code}{k:List Item}{w:World}(al:aP E c=some (.bool true))(h:hx P f R n E (.code x::k) w):hx P f R n E (.code (.cond c x y)::k) w:=
 λa ax=>p2.head (λ_ _=>step_cond (t:=true) (ax.has.aP al)) (h a ax)
theorem abM{E:Env}{c:Operand}{x y:Code}{k:List Item}{w:World}(al:aP E c=some (.bool false))(h:hx P f R n E (.code y::k) w):hx P f R n E (.code (.cond c x y)::k) w:=
 λa ax=>p2.head (λ_ _=>step_cond (t:=false) (ax.has.aP al)) (h a ax)
theorem abN{E:Env}{c:Code}{k:List Item}{w:World}(h:hx P f R n E (.code c::.inLoop c::k) w):hx P f R n E (.inLoop c::k) w:=
 λa ax=>p2.head (λ_ _=>step_inLoop) (h a ax)
theorem dV{E:Env}{c:Code}{k:List Item}{w:World}(I:Nat->Env->World->Prop)
 (bH:∃m jd,I m jd w/\aF.sub jd E)
 (a':∀m E w,I m E w->(∀s6 jd an,I s6 jd an->s6<m->hx P f R n jd (.inLoop c::k) an)->hx P f R n E (.code c::.inLoop c::k) w) :
 hx P f R n E (.code (.loop c)::k) w:=by
 have key:∀m E w,I m E w->hx P f R n E (.code c::.inLoop c::k) w:=by
  intro m
  induction m using Nat.strongRecOn with
  | _ m cc=>exact λE w m_=>a' m E w m_ λs6 jd an abO hN=>abN (cc s6 hN jd an abO)
 obtain⟨m,jd,m_,aT⟩:=bH;exact λa ax=>p2.head (λ_ _=>step_loop) (key m jd w m_ a (ax.sub aT))
theorem Lo{E:Env}{x:Item}{k:List Item}{w:World}(J:Env->World->Prop)
 (hk:∀E w,J E w->hx P f R n E k w) (ah:(∀E w,J E w->hx P f R n E k w)->hx P f R n E (x::k) w):hx P f R n E (x::k) w:=ah hk
theorem B5{n:Nat}{E:Env}{a:Act}{b:Frame}{k:List Item}{w:World}{fn:Func}{v:Value}(ax:Sat n E a)(bC:P.funcs[f]?=some fn)(ab:b.fn=f)(hk:b.kind=.normal)
 (a':(results fn a.tmps).run P w=.ok v w):Frame.leaving P { b.at a k with mode:=.returning } w (.returned v):=
 ⟨rfl,ax.defers,hk,fn,by show P.funcs[b.fn]?=_;rw[ab];exact bC,a'⟩
theorem aM{E:Env}{k:List Item}{w:World}{fn:Func}{t:Tmp}{v:Value}(bC:P.funcs[f]?=some fn)(oC:fn.results=#[.tmp t])
 (cN:mJ t E=some v) (fo:R (.returned v) w):hx P f R n E (.code .ret::k) w:=λa ax b ab hk cs =>
 ⟨.returned v,w,{ b.at a (.code .ret::k) with mode:=.returning },fo,.one step_ret,ab,B5 ax bC ab hk (by
  rw[results_tmp oC,ax.has t v cN])⟩
theorem cO{E:Env}{k:List Item}{w:World}{fn:Func}{t u:Tmp}{v x:Value}(bC:P.funcs[f]?=some fn)(oC:fn.results=#[.tmp t,.tmp u])
 (cN:mJ t E=some v) (ah:mJ u E=some x) (fo:R (.returned (.tuple #[v,x])) w):hx P f R n E (.code .ret::k) w:=λa ax b ab hk cs =>
 ⟨.returned _,w,{ b.at a (.code .ret::k) with mode:=.returning },fo,.one step_ret,ab,B5 ax bC ab hk (by
  rw[results_tmp2 oC,ax.has t v cN,ax.has u x ah])⟩
theorem kN{E:Env}{w:World}{fn:Func}(bC:P.funcs[f]?=some fn)(oC:fn.results=#[])
 (fo:R (.returned (.tuple #[])) w):hx P f R n E [] w:=λa ax b ab hk cs =>
 ⟨.returned _,w,{ b.at a [] with mode:=.returning },fo,.one step_end,ab,B5 ax bC ab hk (results_none oC _ _ _)⟩
theorem tP{E:Env}{k:List Item}{w:World}{fn:Func}(bC:P.funcs[f]?=some fn)(oC:fn.results=#[])
 (fo:R (.returned (.tuple #[])) w):hx P f R n E (.code .ret::k) w:=λa ax b ab hk cs =>
 ⟨.returned _,w,{ b.at a (.code .ret::k) with mode:=.returning },fo,.one step_ret,ab,B5 ax bC ab hk (results_none oC _ _ _)⟩
end
section
variable {P:Program} {f:FuncId} {R:Ending->World->Prop} {n:Nat}
def want(n:Nat)(ops:Array Oper)(E:Env):Option (Nat×Bool)->Option Bool
 | none=>some true
 | some (j,b)=>match (ops[j]?).bind (·.dst) with
  | some d=>match mJ d E with
   | some (.bool c)=>match Nat.blt d n with
    | true=>some (c==b)
    | false=>none
   | some (.tuple _)=>some false
   | _=>none
  | none=>none
theorem B6{ops:Array Oper}{E:Env}{a:Act}(aT:Sat n E a){o:Oper}{b:Bool}(h:want n ops E o.guard=some b):
 Region.wanted o (yielded ops a.tmps)=b:=by
 unfold Region.wanted
 cases aU:o.guard with
 | none=>simpa[want,aU] using h
 | some abP =>
  obtain⟨j,c⟩:=abP;simp only[aU,want] at h
  cases hd:(ops[j]?).bind (·.dst) with
  | none=>simp[hd] at h
  | some d =>
   simp only[hd] at h
   cases bk:mJ d E with
   | none=>simp[bk] at h
   | some v =>
    rw[bk] at h
    cases v<;>simp only[reduceCtorEq] at h
    case tuple vs =>
     have cN:=aT.has d _ bk
     have aD:yielded ops a.tmps j=none:=by
      unfold yielded
      rw[hd]
      simp only[Option.bind_some]
      cases a8:a.tmps[d]? with
      | none=>rfl
      | some u =>
       have:u=.tuple vs:=by
        rw[<-cN];simp[a8]
       rw[this]
     simp only[aD];simp only[Option.some.injEq] at h;subst h
     cases c<;>rfl
    rename_i x
    cases hN:Nat.blt d n with
    | false=>simp[hN] at h
    | true =>
     simp only[hN,Option.some.injEq] at h
     have abQ:d<a.tmps.size:=by
      rw[aT.size];exact Nat.lt_of_succ_le (Nat.le_of_ble_eq_true hN)
     have cN:=aT.has d _ bk
     have aD:yielded ops a.tmps j=some x:=by
      unfold yielded
      rw[hd]
      simp only[Option.bind_some]
      have:a.tmps[d]?=some (.bool x):=by
       rw[<-cN];simp[abQ]
      rw[this]
     simp only[aD];subst h
     cases x<;>cases c<;>rfl
def bz(P:Program)(o:Oper)(E:Env)(C:World->Prop)(v:Value):Prop:=
 ∀a,Has E a->∀w,C w->(execOp a.eval o).run P w=.ok (.value v) w
def out(P:Program)(K:Value->World->Prop):Result Next->Prop
 | .ok (.value v) an=>K v an
 | .ok .skip an=>K undef an
 | .ok (.enter f args) an=>Calls P f args an (λe xo=>∃v,e=.returned v/\K v xo)
 | .ok (.row row args) an=>Rows P row args an K
 | _=>False
theorem Ai{K yD:Value->World->Prop}{r:Result Next}(h:∀v w,K v w->yD v w)(hF:out P K r):out P yD r:=by
 cases r with
 | ok x an =>
  cases x<;>simp only[out] at hF ⊢<;>first
   | exact h _ _ hF
   | exact Calls.mono hF (λe xo ⟨v,he,hk⟩=>⟨v,he,h _ _ hk⟩)
   | exact Rows.mono hF (λv xo hk=>h _ _ hk)
 | halt x an=>simp only[out] at hF
theorem RE{K : Value -> World -> Prop}{r : Result Next}(hF : out P K r): ∃v w, K v w := by
  cases r with
  | ok x an =>
   cases x <;> simp only[out] at hF <;> first
      | exact⟨_, _, hF⟩
      | (obtain⟨e, xo, yC, ⟨v, _, hk⟩, _⟩ := hF []
         exact⟨_, _, hk⟩)
      | (obtain⟨v, xo, hk, _⟩ := hF default []
         exact⟨_, _, hk⟩)
  | halt x an => simp only[out] at hF
theorem RF{o:Oper}{a:Act}{K:Value->World->Prop}{next:Act->World->Prop}{Q:Exit->Act->World->Prop}{r:Result Next}
 (h:∀v w,K v w->next (a.put o.dst v) w) (hF:out P K r):o.upon P a next Q r:=by
 cases r with
 | ok x an =>
  cases x<;>simp only[out] at hF<;>simp only[Oper.upon]<;>first
   | exact h _ _ hF
   | exact Calls.mono hF (λe xo ⟨v,he,hk⟩=>by subst he;exact h _ _ hk)
   | exact Rows.mono hF (λv xo hk=>h _ _ hk)
 | halt x an=>simp only[out] at hF
def gF(P:Program)(o:Oper)(E:Env)(w:World)(K:Value->World->Prop):Prop:=
 ∀a,Has E a->out P K ((execOp a.eval o).run P w)
theorem gF.mono{o:Oper}{E:Env}{w:World}{K yD:Value->World->Prop}(h:gF P o E w K)(hk:∀v an,K v an->yD v an):gF P o E w yD:=
 λa ax=>Ai hk (h a ax)
def fN(P:Program)(f:FuncId)(R:Ending->World->Prop)(n:Nat)(ops:Array Oper)(l:List Oper)(E:Env)(k:List Item)(w:World):Prop:=
 ∀a,Sat n E a->wpList P ops (λe a w=>e=.normal/\p2 P f R k a w) l a w
theorem abR{id:Nat}{l:List Oper}{E:Env}{k:List Item}{w:World}(h:fN P f R n l.toArray l E k w):hx P f R n E (.code (.region id l.toArray false)::k) w:=
 λa ax=>RD (wp_region_lit (h a ax))
theorem fN.nil{ops:Array Oper}{E:Env}{k:List Item}{w:World}(h:hx P f R n E k w):fN P f R n ops [] E k w:=λa ax=>⟨rfl,h a ax⟩
theorem fN.q{ops:Array Oper}{o:Oper}{l:List Oper}{E:Env}{k:List Item}{w:World}{v:Value}(dB:bz P o E (λan=>an=w) v)
 (hw:want n ops E o.guard=some true) (hd:kj n o.dst=true) (h:fN P f R n ops l (pu o.dst v E) k w):fN P f R n ops (o::l) E k w:=by
 intro a ax;refine wpList_step λK eC=>?_
 rw[B6 ax hw,if_pos rfl];unfold Oper.wp;rw[dB a ax.has w rfl];exact eC _ _ (h _ (ax.put hd v))
theorem fN.et{ops:Array Oper}{o:Oper}{l:List Oper}{E:Env}{k:List Item}{w:World}
 (hw:want n ops E o.guard=some false) (hd:kj n o.dst=true) (h:fN P f R n ops l (pu o.dst undef E) k w):fN P f R n ops (o::l) E k w:=by
 intro a ax;refine wpList_step λK eC=>?_
 rw[B6 ax hw,if_neg di];exact eC _ _ (h _ (ax.put hd undef))
theorem fN.act{ops:Array Oper}{o:Oper}{l:List Oper}{E:Env}{k:List Item}{w:World}
 (hw:want n ops E o.guard=some true) (hd:kj n o.dst=true) (ax:gF P o E w (λv an=>fN P f R n ops l (pu o.dst v E) k an)):fN P f R n ops (o::l) E k w:=by
 intro a Lp;refine wpList_step λK eC=>?_
 rw[B6 Lp hw,if_pos rfl];exact RF (λv an cN=>eC _ _ (cN _ (Lp.put hd v))) (ax a Lp.has)
end
end Go.aF
namespace Go.aF
open Go
section
variable {P:Program} {ops:Array Oper} {C:World->Prop} {A:Nat->Bool} {Z:Nat}
def vW(ops:Array Oper)(m:Array Nat):Bool:=
 (List.range ops.size).all λj=>match ops[j]? with
  | some o=>m.getD j 0==o.after.foldl (λs e=>if Region.binds .any e then s ||| 2 ^ e.on ||| m.getD e.on 0 else s) 0
  | none=>true
def tQ(m:Array Nat)(dQ:Array Bool):Prop:=∀j k,dQ.getD j false=true->(m.getD j 0).testBit k=true->dQ.getD k false=true
theorem RG(m:Array Nat)(k:Nat):∀(l:List Edge) (s:Nat),(l.foldl (λs e=>if Region.binds .any e then s ||| 2 ^ e.on ||| m.getD e.on 0 else s) s).testBit k=true ->
 s.testBit k=true\/∃e∈l,Region.binds .any e=true/\(e.on=k\/(m.getD e.on 0).testBit k=true)
 | [],s,h=>.inl h
 | e::l,s,h=>by
  rcases RG m k l _ h with h|⟨nG,Lq,h⟩
  . by_cases ab:Region.binds .any e=true
    . simp only[ab,if_true,Nat.testBit_or,Bool.or_eq_true] at h
      rcases h with (h|h)|h
      . exact .inl h
      . refine .inr ⟨e,by simp,ab,.inl ?_⟩
        rw[Nat.testBit_two_pow] at h
        simpa using h
      . exact .inr ⟨e,by simp,ab,.inr h⟩
    . simp only[ab] at h
      exact .inl h
  . exact .inr ⟨nG,by simp[Lq],h⟩
theorem B7{m:Array Nat}{dQ:Array Bool}(hP:vW ops m=true)(hd:tQ m dQ){j:Nat}(bn:j∈Region.ready .any ops dQ){k:Nat}(hk:(m.getD j 0).testBit k=true):dQ.getD k false=true:=by
 obtain⟨_,o,ee,fY⟩:=mem_ready.1 bn;have hN:j<ops.size:=(Array.getElem?_eq_some_iff.1 ee).1;have h1:=List.all_eq_true.1 hP j (List.mem_range.2 hN);simp only[ee,beq_iff_eq] at h1;rw[h1,<-Array.foldl_toList] at hk;rcases RG m k _ _ hk with h|⟨e,he,ab,h⟩
 . simp at h
 . have bk:=fY e (Array.mem_toList_iff.1 he) ab;rcases h with rfl|h
   . exact bk
   . exact hd _ _ bk h
theorem abS{dQ:Array Bool}{i j:Nat}(h:(dQ.setIfInBounds i true).getD j false=true):j=i\/dQ.getD j false=true:=by
 by_cases m':i=j
 . exact .inl m'.symm
 . rw[getD_set_ne false m'] at h;exact .inr h
theorem tQ.set{m:Array Nat}{dQ:Array Bool}(hP:vW ops m=true)(hd:tQ m dQ){j:Nat}(bn:j∈Region.ready .any ops dQ):tQ m (dQ.setIfInBounds j true):=by
 intro a k ax hk;rcases abS ax with rfl|ax
 . exact getD_set_true (B7 hP hd bn hk)
 . exact getD_set_true (hd a k ax hk)
theorem RH{dQ:Array Bool}{i:Nat}(h:dQ.getD i true=false):dQ.getD i false=false:=by
 rcases Nat.lt_or_ge i dQ.size with gO|gO
 . simpa[gO] using h
 . simp[Array.getElem?_eq_none gO] at h
def Aj(ops:Array Oper)(m:Array Nat)(Z:Nat):Prop:=∀k,Z<ops.size->k<ops.size->k≠Z->(m.getD Z 0).testBit k=true
theorem yE{dQ:Array Bool}{j:Nat}(bn:j∈Region.ready .any ops dQ):j<ops.size:=by
 obtain⟨_,o,ee,_⟩:=mem_ready.1 bn;exact(Array.getElem?_eq_some_iff.1 ee).1
theorem Lr{dQ:Array Bool}{k:Nat}(h:dQ.getD k false=true):dQ.getD k true=true:=by
 rcases Nat.lt_or_ge k dQ.size with gO|gO
 . simpa[gO] using h
 . simp[Array.getElem?_eq_none gO] at h
theorem Ls{m:Array Nat}{dQ:Array Bool}(hP:vW ops m=true)(cS:Aj ops m Z)(hd:tQ m dQ)(bn:Z∈Region.ready .any ops dQ){k:Nat}(hk:k<ops.size)(dL:k≠Z):dQ.getD k true=true:=
 Lr (B7 hP hd bn (cS k (yE bn) hk dL))
theorem RI{m:Array Nat}{dQ:Array Bool}(hP:vW ops m=true)(cS:Aj ops m Z)(hd:tQ m dQ)(bn:Z∈Region.ready .any ops dQ):Region.ready .any ops (dQ.setIfInBounds Z true)=[]:=by
 cases a':Region.ready .any ops (dQ.setIfInBounds Z true) with
 | nil=>rfl
 | cons a l =>
  exfalso;have ax:a∈Region.ready .any ops (dQ.setIfInBounds Z true):=(by rw[a'];simp);have hN:=yE ax;have h1:=(mem_ready.1 ax).1;by_cases Lt:a=Z
  . subst Lt;have vX:=(mem_ready.1 bn).1
    have dM:a<dQ.size:=by
     rcases Nat.lt_or_ge a dQ.size with h|h
     . exact h
     . simp[Array.getElem?_eq_none h] at vX
    simp[dM] at h1
  . rw[getD_set_ne true (Ne.symm Lt)] at h1;rw[Ls hP cS hd bn hN Lt] at h1;cases h1
def RJ(ops : Array Oper)(m : Array Nat)(A : Nat -> Bool)(dQ : Array Bool)(i : Nat): Bool :=
  (List.range ops.size).all λj => j == i || dQ.getD j true || (m.getD j 0).testBit i ||
    (match ops[i]?, ops[j]? with
     | some i1, some im => i1.apart ops im && !(A i && A j)
     | _, _ => true)
def B8(ops:Array Oper)(m:Array Nat)(A:Nat->Bool):Nat->Nat->Array Bool->Bool
 | 0,_,dQ=>(Region.ready .any ops dQ).isEmpty
 | fuel+1,k,dQ=>(Region.ready .any ops dQ).contains k && RJ ops m A dQ k && B8 ops m A fuel (k+1) (dQ.setIfInBounds k true)
def Lu(ops:Array Oper)(m:Array Nat)(Z:Nat):Bool:=Nat.ble ops.size Z || (List.range ops.size).all λk=>k==Z || (m.getD Z 0).testBit k
theorem abT{m:Array Nat}(h:Lu ops m Z=true):Aj ops m Z:=λk cS hk dL=>by
 unfold Lu at h
 rcases Bool.or_eq_true _ _▸h with h|h
 . have:=Nat.le_of_ble_eq_true h;omega
 . have:=List.all_eq_true.1 h k (List.mem_range.2 hk)
   simp only[Bool.or_eq_true,beq_iff_eq] at this
   exact this.resolve_left dL
def B9(ops:Array Oper)(A:Nat->Bool)(Z:Nat):Bool:=
 Lu ops (Region.before ops) Z && Region.noSelect ops && vW ops (Region.before ops) && B8 ops (Region.before ops) A ops.size 0 (Array.replicate ops.size false)
theorem abU{m:Array Nat}{dQ:Array Bool}{i:Nat}{i1:Oper}(ar:ops[i]?=some i1)(h:RJ ops m A dQ i=true):
 ∀j im,ops[j]?=some im->j≠i->dQ.getD j true=false->(m.getD j 0).testBit i=false->i1.apart ops im=true/\(A i && A j)=false:=by
 intro j im bn dL bk hm;have h1:=List.all_eq_true.1 h j (List.mem_range.2 (Array.getElem?_eq_some_iff.1 bn).1);simp only[ar,bn,bk,hm,Bool.or_false,Bool.or_eq_true,beq_iff_eq,Bool.and_eq_true,Bool.not_eq_true'] at h1;rcases h1 with h1|h1
 . exact absurd h1 dL
 . exact h1
end
end Go.aF
namespace Go.pt
open Go Go.aF
def tR(N:Nat->Bool)(eH:World)(C:World->Prop)(i:Nat)(w:World):Prop:=if N i=true then w=eH else C w
def J(ops:Array Oper)(N:Nat->Bool)(eH:World)(C:World->Prop)(dQ:Array Bool)(w:World):Prop:=C w/\(w=eH\/∀i,N i=true->i<ops.size->dQ.getD i true=true)
def uV(ops:Array Oper)(m:Array Nat)(A N:Nat->Bool):Bool:=(List.range ops.size).all λj=>!A j || (List.range ops.size).all λi=>!N i || (!A i && (m.getD j 0).testBit i)
theorem RK{ops:Array Oper}{m:Array Nat}{A N:Nat->Bool}(h:uV ops m A N=true){i j:Nat}(ar:i<ops.size)(bn:j<ops.size)(bg:A j=true)(hr:N i=true):A i=false/\(m.getD j 0).testBit i=true:=by
 have h1:=List.all_eq_true.1 h j (List.mem_range.2 bn);simp only[bg,Bool.not_true,Bool.false_or] at h1;have ag:=List.all_eq_true.1 h1 i (List.mem_range.2 ar);simp only[hr,Bool.not_true,Bool.false_or,Bool.and_eq_true,Bool.not_eq_true'] at ag;exact ag
theorem J.set{ops:Array Oper}{N:Nat->Bool}{eH w:World}{C:World->Prop}{dQ:Array Bool}{k:Nat}(h:J ops N eH C dQ w):J ops N eH C (dQ.setIfInBounds k true) w:=by
 refine⟨h.1,h.2.imp id λax i hr ar=>?_⟩;have:=ax i hr ar;by_cases hk:k=i
 . subst hk;simp only[Array.getD_eq_getD_getElem?,Array.getElem?_setIfInBounds];split<;>rename_i bH<;>simp_all
   split<;>simp_all
 . rw[getD_set_ne true hk];exact this
section
variable {P:Program} {ops:Array Oper} {C:World->Prop} {A N:Nat->Bool} {Z:Nat} {eH:World}
def na(P:Program)(ops:Array Oper)(C:World->Prop)(A N:Nat->Bool)(eH:World)(Z:Nat)(i:Nat)(K:Act->World->Prop)(a:Act)(w:World):Prop:=
 match ops[i]? with
 | none=>K a w
 | some o =>
  if Region.wanted o (yielded ops a.tmps)=true then
   if A i=true then out P (λv an=>(i=Z\/C an)/\K (a.put o.dst v) an) ((execOp a.eval o).run P w)
   else ∃v,(∀an,tR N eH C i an->(execOp a.eval o).run P an=.ok (.value v) an)/\K (a.put o.dst v) w
  else K (a.put o.dst undef) w
def wd(P:Program)(ops:Array Oper)(C:World->Prop)(A N:Nat->Bool)(eH:World)(Z:Nat)(Q:Act->World->Prop):List Nat->Act->World->Prop
 | [],a,w=>Q a w
 | i::r,a,w=>na P ops C A N eH Z i (wd P ops C A N eH Z Q r) a w
def tS(P:Program)(ops:Array Oper)(C:World->Prop)(A N:Nat->Bool)(eH:World)(Z:Nat)(Q:Act->World->Prop):Nat->Array Bool->Act->World->Prop
 | 0,dQ,a,w=>Region.ready .any ops dQ=[]/\Q a w
 | fuel+1,dQ,a,w =>
  (Region.ready .any ops dQ=[]->Q a w) /\
  ∀i∈Region.ready .any ops dQ,na P ops C A N eH Z i (tS P ops C A N eH Z Q fuel (dQ.setIfInBounds i true)) a w
def vY(P:Program)(ops:Array Oper)(C:World->Prop)(A N:Nat->Bool)(eH:World)(i:Nat)(o:Oper)(v:Value)(a:Act):Prop:=
 (Region.wanted o (yielded ops a.tmps)=true/\A i=false/\∀an,tR N eH C i an->(execOp a.eval o).run P an=.ok (.value v) an) \/
 (Region.wanted o (yielded ops a.tmps)=false/\v=undef)
theorem vY.na{i:Nat}{o:Oper}{v:Value}{a:Act}{w:World}{K:Act->World->Prop}(ar:ops[i]?=some o)(aD:vY P ops C A N eH i o v a)(h:K (a.put o.dst v) w):na P ops C A N eH Z i K a w:=by
 unfold pt.na;simp only[ar];rcases aD with ⟨hw,bg,cN⟩|⟨hw,rfl⟩
 . simp only[hw,bg,if_true,Bool.false_eq_true,if_false];exact⟨v,cN,h⟩
 . simp only[hw,Bool.false_eq_true,if_false];exact h
theorem vY.of_same{i:Nat}{o:Oper}{v:Value}{a qW:Act}(aD:vY P ops C A N eH i o v a)(he:execOp qW.eval o=execOp a.eval o)
 (hw:Region.wanted o (yielded ops qW.tmps)=Region.wanted o (yielded ops a.tmps)):vY P ops C A N eH i o v qW:=by
 unfold vY at *;rw[he,hw];exact aD
theorem abV{i j:Nat}{i1 im:Oper}{v:Value}(bn:ops[j]?=some im)(Lv:i1.apart ops im=true)
 (Hf:∀cs b,i1.op≠.select cs b) (Lw:∀cs b,im.op≠.select cs b) {K:Act->World->Prop} {a:Act} {w:World}
 (aD:vY P ops C A N eH i i1 v a) (h:na P ops C A N eH Z j K (a.put i1.dst v) w) :
 na P ops C A N eH Z j (λqW an=>vY P ops C A N eH i i1 v qW/\K (qW.put i1.dst v) an) a w:=by
 obtain⟨h1,ag,aB⟩:=Oper.apart_spec Lv
 have keep:∀u,vY P ops C A N eH i i1 v (a.put im.dst u):=λu =>
  aD.of_same (execOp_put i1 Hf a im.dst u aB) (wanted_put i1 a im.dst u aB)
 unfold na at *;simp only[bn] at *;rw[wanted_put im a i1.dst v h1,execOp_put im Lw a i1.dst v h1] at h;split
 . rename_i hw;simp only[hw,if_true] at h;split
   . rename_i bg;simp only[bg,if_true] at h;exact Ai (λu an hu=>⟨hu.1,keep u,by rw[<-Act.put_comm a v u ag];exact hu.2⟩) h
   . rename_i bg;simp only[bg] at h;obtain⟨u,hu,hk⟩:=h;exact⟨u,hu,keep u,by rw[<-Act.put_comm a v u ag];exact hk⟩
 . rename_i hw;simp only[hw] at h;exact⟨keep _,by rw[<-Act.put_comm a v undef ag];exact h⟩
theorem abW{i:Nat}{K yD:Act->World->Prop}{J':World->Prop}{a:Act}{w:World}(dL:i≠Z)(h:∀a w,J' w->K a w->yD a w)(hC:J' w)(abX:A i=true->∀an,C an->J' an)(hF:na P ops C A N eH Z i K a w):na P ops C A N eH Z i yD a w:=by
 unfold na at *;split
 . exact h _ _ hC (by simpa[*] using hF)
 . rename_i o ee;simp only[ee] at hF;split
   . rename_i hw;simp only[hw,if_true] at hF;split
     . rename_i bg;simp only[bg,if_true] at hF;exact Ai (λv an cN=>⟨cN.1,h _ _ (abX bg _ (cN.1.resolve_left dL)) cN.2⟩) hF
     . rename_i bg;simp only[bg] at hF;obtain⟨v,h1,ag⟩:=hF;exact⟨v,h1,h _ _ hC ag⟩
   . rename_i hw;simp only[hw] at hF;exact h _ _ hC hF
theorem J.act{m:Array Nat}(hP:vW ops m=true)(nH:uV ops m A N=true){dQ:Array Bool}(hd:tQ m dQ){j:Nat}(bn:j∈Region.ready .any ops dQ)(bg:A j=true){an:World}(hC:C an):J ops N eH C (dQ.setIfInBounds j true) an:=by
 refine⟨hC,.inr λi hr ar=>?_⟩;obtain⟨Hg,ab⟩:=RK nH ar (yE bn) bg hr;have:=Lr (B7 hP hd bn ab);by_cases i6:j=i
 . subst i6;rw[bg] at Hg;cases Hg
 . rw[getD_set_ne true i6];exact this
theorem J.abY{dQ:Array Bool}{w:World}(h:J ops N eH C dQ w){i:Nat}(ar:i∈Region.ready .any ops dQ):tR N eH C i w:=by
 unfold tR;split
 . rename_i hr;rcases h.2 with e|ax
   . exact e
   . have h1:=ax i hr (yE ar);rw[(mem_ready.1 ar).1] at h1;cases h1
 . exact h.1
theorem Ec{m:Array Nat}(hP:vW ops m=true)(nH:uV ops m A N=true)(cS:Aj ops m Z){Q:Act->World->Prop}{RL:Exit->Act->World->Prop}(B_:∀a w,Q a w->RL .normal a w):∀(fuel:Nat) (dQ:Array Bool) (a:Act) (w:World),(J ops N eH C dQ w\/Region.ready .any ops dQ=[])->tQ m dQ ->
 tS P ops C A N eH Z Q fuel dQ a w->wpAny P .any ops RL fuel dQ a w
 | 0,_,_,_,_,_,h=>⟨h.1,B_ _ _ h.2⟩
 | fuel+1,dQ,a,w,hC,nb,h=>⟨λbH=>B_ _ _ (h.1 bH),λi ar=>by
  have B':J ops N eH C dQ w:=by
   rcases hC with h|h
   . exact h
   . rw[h] at ar;cases ar
  have Ca:=nb.set hP ar
  have ag:=h.2 i ar
  unfold na at ag
  unfold wpOp
  split
  . rename_i ee
    simp only[ee] at ag
    exact Ec hP nH cS B_ fuel _ _ _ (.inl B'.set) Ca ag
  . rename_i o ee
    simp only[ee] at ag
    split
    . rename_i hw
      simp only[hw,if_true] at ag
      refine .inl ?_
      split at ag
      . rename_i Hg
        refine RF (λv an cN=>Ec hP nH cS B_ fuel _ _ _ ?_ Ca cN.2) ag
        rcases cN.1 with e|e
        . subst e;exact .inr (RI hP cS nb ar)
        . exact .inl (J.act hP nH nb ar Hg e)
      . obtain⟨v,aB,bE⟩:=ag
        unfold Oper.wp
        rw[aB w (B'.abY ar)]
        exact Ec hP nH cS B_ fuel _ _ _ (.inl B'.set) Ca bE
    . rename_i hw
      simp only[hw] at ag
      exact Ec hP nH cS B_ fuel _ _ _ (.inl B'.set) Ca ag⟩
theorem RM{m:Array Nat}(hP:vW ops m=true)(nH:uV ops m A N=true)(cS:Aj ops m Z){Q:Act->World->Prop}{i:Nat}{i1:Oper}{v:Value}(ar:ops[i]?=some i1)(Ed:∀(j:Nat) (o:Oper) cs b,ops[j]?=some o->o.op≠.select cs b):
 ∀(fuel:Nat) (dQ:Array Bool) (a:Act) (w:World),J ops N eH C dQ w->tQ m dQ ->
  (∀j im,ops[j]?=some im->j≠i->dQ.getD j true=false->(m.getD j 0).testBit i=false->i1.apart ops im=true) ->
  i∈Region.ready .any ops dQ->vY P ops C A N eH i i1 v a ->
  tS P ops C A N eH Z Q fuel (dQ.setIfInBounds i true) (a.put i1.dst v) w->tS P ops C A N eH Z Q (fuel+1) dQ a w:=by
 intro fuel
 induction fuel with
 | zero =>
  intro dQ a w hC _ _ a' aD H;refine⟨λh=>(by rw[h] at a';cases a'),λj bn=>?_⟩;by_cases i6:j=i
  . subst i6;exact aD.na ar H
  . have:=ready_mono bn i6;rw[H.1] at this;cases this
 | succ fuel cc =>
  intro dQ a w hC nb Ee a' aD H;refine⟨λh=>(by rw[h] at a';cases a'),λj bn=>?_⟩;by_cases i6:j=i
  . subst i6;exact aD.na ar H
  . have h1:=H.2 j (ready_mono bn i6);obtain⟨Ak,im,xp,fY⟩:=mem_ready.1 bn
    have Lx:(m.getD j 0).testBit i=false:=by
     cases ab:(m.getD j 0).testBit i with
     | false=>rfl
     | true =>
      have ag:=B7 hP nb bn ab
      rw[RH (mem_ready.1 a').1] at ag
      cases ag
    have ag:=abV xp (Ee j im xp i6 Ak Lx) (λcs b=>Ed i i1 cs b ar) (λcs b=>Ed j im cs b xp) aD h1
    have Hh:∀k ok,ops[k]?=some ok->k≠i->(dQ.setIfInBounds j true).getD k true=false ->
     (m.getD k 0).testBit i=false->i1.apart ops ok=true:=λk ok hk n_ Ef fZ=>by
     refine Ee k ok hk n_ ?_ fZ
     by_cases n':j=k
     . subst n';exact Ak
     . rw[getD_set_ne true n'] at Ef;exact Ef
    have abZ:j≠Z:=λe=>by
     subst e
     have c3:=Ls hP cS nb bn (yE a') (Ne.symm i6)
     rw[(mem_ready.1 a').1] at c3;cases c3
    refine abW (J':=J ops N eH C (dQ.setIfInBounds j true)) abZ (λqW an B' aB=>cc (dQ.setIfInBounds j true) qW an B' (nb.set hP bn) Hh (ready_mono a' (Ne.symm i6)) aB.1 ?_) hC.set (λHi an al=>J.act hP nH nb bn Hi al) ag;rw[Array.setIfInBounds_comm _ _ i6];exact aB.2
theorem ab0{m:Array Nat}(hP:vW ops m=true)(nH:uV ops m A N=true)(cS:Aj ops m Z){Q:Act->World->Prop}{i:Nat}{i1:Oper}(ar:ops[i]?=some i1)(bg:A i=true)(Ed:∀(j:Nat) (o:Oper) cs b,ops[j]?=some o->o.op≠.select cs b):
 ∀(fuel:Nat) (dQ:Array Bool) (a:Act) (w:World),J ops N eH C dQ w->tQ m dQ ->
  (∀j im,ops[j]?=some im->j≠i->dQ.getD j true=false->(m.getD j 0).testBit i=false->i1.apart ops im=true/\A j=false) ->
  i∈Region.ready .any ops dQ->Region.wanted i1 (yielded ops a.tmps)=true ->
  out P (λv an=>(i=Z\/C an)/\tS P ops C A N eH Z Q fuel (dQ.setIfInBounds i true) (a.put i1.dst v) an) ((execOp a.eval i1).run P w)->tS P ops C A N eH Z Q (fuel+1) dQ a w:=by
 intro fuel
 induction fuel with
 | zero =>
  intro dQ a w hC _ _ a' hw H;refine⟨λh=>(by rw[h] at a';cases a'),λj bn=>?_⟩;by_cases i6:j=i
  . subst i6;unfold na;simp only[ar,hw,bg,if_true];exact H
  . obtain⟨v,an,_,hk⟩:=RE H;have:=ready_mono bn i6;rw[hk.1] at this;cases this
 | succ fuel cc =>
  intro dQ a w hC nb Ee a' hw H;refine⟨λh=>(by rw[h] at a';cases a'),λj bn=>?_⟩;by_cases i6:j=i
  . subst i6;unfold na;simp only[ar,hw,bg,if_true];exact H
  . obtain⟨Ak,im,xp,fY⟩:=mem_ready.1 bn
    have Lx:(m.getD j 0).testBit i=false:=by
     cases ab:(m.getD j 0).testBit i with
     | false=>rfl
     | true =>
      have ag:=B7 hP nb bn ab
      rw[RH (mem_ready.1 a').1] at ag
      cases ag
    obtain⟨Lv,Hi⟩:=Ee j im xp i6 Ak Lx;obtain⟨Hj,Ly,Hk⟩:=Oper.apart_spec Lv
    have Hh:∀k ok,ops[k]?=some ok->k≠i->(dQ.setIfInBounds j true).getD k true=false ->
     (m.getD k 0).testBit i=false->i1.apart ops ok=true/\A k=false:=λk ok hk n_ Ef fZ=>by
     refine Ee k ok hk n_ ?_ fZ
     by_cases n':j=k
     . subst n';exact Ak
     . rw[getD_set_ne true n'] at Ef;exact Ef
    have Hf:=λcs b=>Ed i i1 cs b ar
    have Lw:=λcs b=>Ed j im cs b xp
    have ab1:N j=false:=by
     cases hr:N j with
     | false=>rfl
     | true =>
      have eX:=Lr (B7 hP nb a' (RK nH (yE bn) (yE a') bg hr).2)
      rw[Ak] at eX;cases eX
    have iq:∀an,tR N eH C j an↔C an:=λan=>by unfold tR;rw[ab1];simp
    -- arQ 'RN arR,arS 'RO left
    have after:∀v an,tS P ops C A N eH Z Q (fuel+1) (dQ.setIfInBounds i true) (a.put i1.dst v) an ->
     na P ops C A N eH Z j (tS P ops C A N eH Z Q fuel ((dQ.setIfInBounds i true).setIfInBounds j true)) (a.put i1.dst v) an:=λv an hk=>hk.2 j (ready_mono bn i6)
    unfold na;simp only[xp,Hi,Bool.false_eq_true,if_false];by_cases Hl:Region.wanted im (yielded ops a.tmps)=true
    . simp only[Hl,if_true]
      have get:∀v an,tS P ops C A N eH Z Q (fuel+1) (dQ.setIfInBounds i true) (a.put i1.dst v) an ->
       ∃u,(∀an,tR N eH C j an->(execOp a.eval im).run P an=.ok (.value u) an)/\tS P ops C A N eH Z Q fuel ((dQ.setIfInBounds i true).setIfInBounds j true) ((a.put i1.dst v).put im.dst u) an:=λv an hk=>by
       have h1:=after v an hk
       unfold na at h1
       simp only[xp,Hi,Bool.false_eq_true,if_false] at h1
       rw[wanted_put im a i1.dst v Hj,Hl,if_pos rfl,execOp_put im Lw a i1.dst v Hj] at h1
       exact h1
      have arT:i≠Z:=λe=>by
       subst e
       have c3:=Ls hP cS nb a' (yE bn) i6
       rw[Ak] at c3;cases c3
      obtain⟨v0,w0,RP,ab2⟩:=RE H;obtain⟨u,hu,_⟩:=get v0 w0 ab2;refine⟨u,hu,cc (dQ.setIfInBounds j true) (a.put im.dst u) w hC.set (nb.set hP bn) Hh (ready_mono a' (Ne.symm i6)) ?_ ?_⟩
      . rw[wanted_put i1 a im.dst u Hk];exact hw
      . rw[execOp_put i1 Hf a im.dst u Hk];refine Ai (λv an ⟨al,hk⟩=>⟨al,?_⟩) H;obtain⟨Eg,Hm,rG⟩:=get v an hk
        have e:Eg=u:=by
         have h1:=hu w ((iq w).2 hC.1)
         rw[Hm w ((iq w).2 hC.1)] at h1
         simpa using h1
        subst e;rw[Array.setIfInBounds_comm _ _ i6,<-Act.put_comm a v Eg Ly];exact rG
    . simp only[Hl,Bool.false_eq_true,if_false];refine cc (dQ.setIfInBounds j true) (a.put im.dst undef) w hC.set (nb.set hP bn) Hh (ready_mono a' (Ne.symm i6)) ?_ ?_
      . rw[wanted_put i1 a im.dst undef Hk];exact hw
      . rw[execOp_put i1 Hf a im.dst undef Hk];refine Ai (λv an ⟨al,hk⟩=>⟨al,?_⟩) H;have h1:=after v an hk;unfold na at h1;simp only[xp] at h1;rw[wanted_put im a i1.dst v Hj,if_neg (by simpa using Hl)] at h1;rw[Array.setIfInBounds_comm _ _ i6,<-Act.put_comm a v undef Ly];exact h1
theorem RQ{m:Array Nat}(hP:vW ops m=true)(nH:uV ops m A N=true)(cS:Aj ops m Z){Q:Act->World->Prop}(aT:Region.noSelect ops=true):∀(fuel k:Nat) (dQ:Array Bool) (a:Act) (w:World),(J ops N eH C dQ w\/fuel=0)->tQ m dQ ->
 k+fuel=ops.size->B8 ops m A fuel k dQ=true->wd P ops C A N eH Z Q (List.range' k fuel) a w->tS P ops C A N eH Z Q fuel dQ a w
 | 0,_,_,_,_,_,_,_,ft,h=>⟨by simpa[B8] using ft,h⟩
 | fuel+1,k,dQ,a,w,RP,nb,dM,ft,h=>by
  have hC:J ops N eH C dQ w:=RP.resolve_right aa
  have hN:k<ops.size:=by omega
  have bH:ops[k]?=some ops[k]:=by simp[hN]
  simp only[B8,Bool.and_eq_true,List.contains_iff_mem] at ft
  obtain⟨⟨a',bC⟩,Hn⟩:=ft
  have Ho:=abU bH bC
  rw[List.range'_succ] at h
  simp only[wd] at h
  have Ca:=nb.set hP a'
  have Al:k=Z->fuel=0:=λe=>by
   subst e
   have hd:=RI hP cS nb a'
   cases fuel with
   | zero=>rfl
   | succ f =>
    simp only[B8,Bool.and_eq_true,List.contains_iff_mem] at Hn
    rw[hd] at Hn
    exact absurd Hn.1.1 di
  have Lz:∀a w,(J ops N eH C (dQ.setIfInBounds k true) w\/fuel=0)->wd P ops C A N eH Z Q (List.range' (k+1) fuel) a w->tS P ops C A N eH Z Q fuel (dQ.setIfInBounds k true) a w:=λa w al hk =>
   RQ hP nH cS aT fuel (k+1) _ a w al Ca aa Hn hk
  unfold na at h
  simp only[bH] at h
  by_cases hw:Region.wanted ops[k] (yielded ops a.tmps)=true
  . simp only[hw,if_true] at h
    by_cases bg:A k=true
    . simp only[bg,if_true] at h
      exact ab0 hP nH cS bH bg (Region.noSelect_spec aT) fuel dQ a w hC nb (λj im bn dL bk hm=>⟨(Ho j im bn dL bk hm).1,by have:=(Ho j im bn dL bk hm).2;simpa[bg] using this⟩) a' hw
       (Ai (λv an cN=>⟨cN.1,Lz _ _ (cN.1.elim (λe=>.inr (Al e)) (λe=>.inl (J.act hP nH nb a' bg e))) cN.2⟩) h)
    . simp only[bg] at h
      obtain⟨v,cN,hk⟩:=h
      exact RM hP nH cS bH (Region.noSelect_spec aT) fuel dQ a w hC nb (λj im bn dL bk hm=>(Ho j im bn dL bk hm).1) a' (.inl ⟨hw,by simpa using bg,cN⟩) (Lz _ _ (.inl hC.set) hk)
  . simp only[hw] at h
    exact RM (A:=A) (v:=undef) hP nH cS bH (Region.noSelect_spec aT) fuel dQ a w hC nb (λj im bn dL bk hm=>(Ho j im bn dL bk hm).1) a' (.inr ⟨by simpa using hw,rfl⟩) (Lz _ _ (.inl hC.set) h)
theorem ab3{id:Nat}{Q:Exit->Act->World->Prop}{a:Act}{w:World}(hm:P.follows .mixedOrders=true)(ft:B9 ops A Z=true)(hr:uV ops (Region.before ops) A N=true)(hC:C w.drew)
 (h:wd P ops C A N w.drew Z (λqW an=>Q .normal qW an) (List.range' 0 ops.size) a w.drew):(Code.region id ops true).wp P Q a w:=by
 simp only[B9,Bool.and_eq_true] at ft;have cS:=abT ft.1.1.1
 have nb:tQ (Region.before ops) (Array.replicate ops.size false):=λj k bn=>by
  simp only[Array.getD_eq_getD_getElem?,Array.getElem?_replicate] at bn
  split at bn<;>simp at bn
 have RR:J ops N w.drew C (Array.replicate ops.size false) w.drew:=⟨hC,.inl rfl⟩;exact wp_region_any hm (Ec (C:=C) (A:=A) (Z:=Z) ft.1.2 hr cS (Q:=λqW an=>Q .normal qW an) (λ_ _ h=>h) _ _ _ _ (.inl RR) nb (RQ ft.1.2 hr cS ft.1.1.2 ops.size 0 _ a _ (.inl RR) nb aa ft.2 h))
variable {f:FuncId} {R:Ending->World->Prop} {n:Nat}
def iL(P:Program)(f:FuncId)(R:Ending->World->Prop)(n:Nat)(C:World->Prop)(A N:Nat->Bool)(eH:World)(Z:Nat)(ops:Array Oper)(l:List Nat)(E:Env)(k:List Item)(w:World):Prop:=
 ∀a,Sat n E a->wd P ops C A N eH Z (λa w=>p2 P f R k a w) l a w
theorem RS(A N:Nat->Bool)(Z:Nat)(C:World->Prop){id:Nat}{ops:Array Oper}{E:Env}{k:List Item}{w:World}(hm:P.follows .mixedOrders=true)(ft:B9 ops A Z=true)(hr:uV ops (Region.before ops) A N=true)
 (h:C w.drew/\iL P f R n C A N w.drew Z ops (List.range' 0 ops.size) E k w.drew):hx P f R n E (.code (.region id ops true)::k) w:=
 λa ax=>RD (ab3 (A:=A) (N:=N) (C:=C) (Z:=Z) hm ft hr h.1 (by
  have:=h.2 a ax
  refine cast ?_ this
  congr
  funext qW an
  simp))
theorem Am(A N:Nat->Bool)(Z:Nat)(C:World->Prop){id:Nat}{ops:Array Oper}{E:Env}{k:List Item}{w:World}(hm:P.follows .mixedOrders=true){l:List Nat}
 (h:∀ai,Ext w ai->C ai/\iL P f R n C A N ai Z ops l E k ai) (ft:B9 ops A Z=true:=by kernel_rfl) (hr:uV ops (Region.before ops) A N=true:=by kernel_rfl) (bk:List.range' 0 ops.size=l:=by exact rfl):hx P f R n E (.code (.region id ops true)::k) w:=
 RS A N Z C hm ft hr (bk▸h w.drew (Mod.drew _ _))
theorem iL.nil{ops:Array Oper}{E:Env}{k:List Item}{w:World}(h:hx P f R n E k w):iL P f R n C A N eH Z ops [] E k w:=λa ax=>h a ax
theorem iL.q{ops:Array Oper}{o:Oper}{i:Nat}{l:List Nat}{E:Env}{k:List Item}{w:World}{v:Value}(ee:ops[i]?=some o)(bg:A i=false)(dB:bz P o E (tR N eH C i) v)
 (hw:want n ops E o.guard=some true) (hd:kj n o.dst=true) (h:iL P f R n C A N eH Z ops l (pu o.dst v E) k w):iL P f R n C A N eH Z ops (i::l) E k w:=by
 intro a ax;simp only[wd,na,ee,B6 ax hw,bg,if_true,Bool.false_eq_true,if_false];exact⟨v,dB a ax.has,h _ (ax.put hd v)⟩
theorem iL.ab4 {ops : Array Oper} {o : Oper} {i : Nat} {l : List Nat} {E : Env} {k : List Item} {w : World} {v : Value} (ee : ops[i]? = some o) (bg : A i = false) (hr : N i = true) (dB : bz P o E (fun an => an = eH) v)
    (hw : want n ops E o.guard = some true) (hd : kj n o.dst = true) (h : iL P f R n C A N eH Z ops l (pu o.dst v E) k w) : iL P f R n C A N eH Z ops (i :: l) E k w :=
  iL.q ee bg (by have : tR N eH C i = fun an => an = eH := by funext an; unfold tR; rw [if_pos hr]
                 rw [this]; exact dB) hw hd h
theorem iL.RT {ops : Array Oper} {o : Oper} {i : Nat} {l : List Nat} {E : Env} {k : List Item} {w : World} {v : Value} (ee : ops[i]? = some o) (bg : A i = false) (hr : N i = false) (dB : bz P o E C v)
    (hw : want n ops E o.guard = some true) (hd : kj n o.dst = true) (h : iL P f R n C A N eH Z ops l (pu o.dst v E) k w) : iL P f R n C A N eH Z ops (i :: l) E k w :=
  iL.q ee bg (by have : tR N eH C i = C := by funext an; unfold tR; rw [if_neg (by rw [hr]; simp)]
                 rw [this]; exact dB) hw hd h
theorem iL.et{ops:Array Oper}{o:Oper}{i:Nat}{l:List Nat}{E:Env}{k:List Item}{w:World}(ee:ops[i]?=some o)
 (hw:want n ops E o.guard=some false) (hd:kj n o.dst=true) (h:iL P f R n C A N eH Z ops l (pu o.dst undef E) k w):iL P f R n C A N eH Z ops (i::l) E k w:=by
 intro a ax;simp only[wd,na,ee,B6 ax hw,Bool.false_eq_true,if_false];exact h _ (ax.put hd undef)
theorem iL.act{ops:Array Oper}{o:Oper}{i:Nat}{l:List Nat}{E:Env}{k:List Item}{w:World}(ee:ops[i]?=some o)(bg:A i=true)
 (hw:want n ops E o.guard=some true) (hd:kj n o.dst=true) (ax:gF P o E w (λv an=>(i=Z\/C an)/\iL P f R n C A N eH Z ops l (pu o.dst v E) k an)):iL P f R n C A N eH Z ops (i::l) E k w:=by
 intro a aT;simp only[wd,na,ee,B6 aT hw,bg,if_true];exact Ai (λv an cN=>⟨cN.1,cN.2 _ (aT.put hd v)⟩) (ax a aT.has)
end
end Go.pt
namespace Go.aF
open Go
section
variable {P:Program} {C:World->Prop} {A:Nat->Bool} {Z:Nat} {f:FuncId} {R:Ending->World->Prop} {n:Nat}
def hQ(P:Program)(f:FuncId)(R:Ending->World->Prop)(n:Nat)(C:World->Prop)(A:Nat->Bool)(Z:Nat)(ops:Array Oper)(l:List Nat)(E:Env)(k:List Item)(w:World):Prop:=
 ∀eH,pt.iL P f R n C A (λ_=>false) eH Z ops l E k w
theorem ab5(ops:Array Oper)(m:Array Nat)(A:Nat->Bool):pt.uV ops m A (λ_=>false)=true:=by
 unfold pt.uV;simp
theorem ab6(A:Nat->Bool)(Z:Nat)(C:World->Prop){id:Nat}{ops:Array Oper}{E:Env}{k:List Item}{w:World}(hm:P.follows .mixedOrders=true)(ft:B9 ops A Z=true)
 (h:C w.drew/\hQ P f R n C A Z ops (List.range' 0 ops.size) E k w.drew):hx P f R n E (.code (.region id ops true)::k) w:=
 pt.RS A (λ_=>false) Z C hm ft (ab5 _ _ _) ⟨h.1,h.2 _⟩
theorem hQ.nil{ops:Array Oper}{E:Env}{k:List Item}{w:World}(h:hx P f R n E k w):hQ P f R n C A Z ops [] E k w:=λeH=>pt.iL.nil h
theorem hQ.q{ops:Array Oper}{o:Oper}{i:Nat}{l:List Nat}{E:Env}{k:List Item}{w:World}{v:Value}(ee:ops[i]?=some o)(bg:A i=false)(dB:bz P o E C v)
 (hw:want n ops E o.guard=some true) (hd:kj n o.dst=true) (h:hQ P f R n C A Z ops l (pu o.dst v E) k w):hQ P f R n C A Z ops (i::l) E k w:=λeH=>pt.iL.RT ee bg rfl dB hw hd (h eH)
theorem hQ.et{ops:Array Oper}{o:Oper}{i:Nat}{l:List Nat}{E:Env}{k:List Item}{w:World}(ee:ops[i]?=some o)
 (hw:want n ops E o.guard=some false) (hd:kj n o.dst=true) (h:hQ P f R n C A Z ops l (pu o.dst undef E) k w):hQ P f R n C A Z ops (i::l) E k w:=λeH=>pt.iL.et ee hw hd (h eH)
theorem hQ.act{ops:Array Oper}{o:Oper}{i:Nat}{l:List Nat}{E:Env}{k:List Item}{w:World}(ee:ops[i]?=some o)(bg:A i=true)
 (hw:want n ops E o.guard=some true) (hd:kj n o.dst=true) (ax:gF P o E w (λv an=>(i=Z\/C an)/\hQ P f R n C A Z ops l (pu o.dst v E) k an)):hQ P f R n C A Z ops (i::l) E k w:=λeH=>pt.iL.act ee bg hw hd (ax.mono λ_ _ h=>⟨h.1,h.2 eH⟩)
end
end Go.aF
namespace Go.aF
open Go
abbrev aj:=List UInt8
def aE(s:aj):Value:=.string ⟨s.toArray⟩
def ptr(b off:Nat):Value:=.pointer (some ⟨b,off,none⟩)
theorem ab7(s:ByteArray):Value.string s=aE s.data.toList:=by simp[aE]
def Row(w:World)(b off:Nat)(cs:List Value):Prop:=∀i v,cs[i]?=some v->w.cell? ⟨b,off+i,none⟩=some v
theorem ab8{M:Nat->Prop}{w an:World}{b o:Nat}{v:Value}(h:w.cell? ⟨b,o,none⟩=some v)(hm:Mod M w an)(ab:¬ M b):an.cell? ⟨b,o,none⟩=some v:=by
 unfold World.cell? at h ⊢;simp only[Option.isSome_none,Bool.false_eq_true,if_false] at h ⊢
 cases hF:w.heap[b]? with
 | none=>rw[hF] at h;cases h
 | some LA =>
  rw[hm.keep b LA hF ab];rw[hF] at h;exact h
theorem Row.keep{M:Nat->Prop}{w an:World}{b off:Nat}{cs:List Value}(h:Row w b off cs)(hm:Mod M w an)(ab:¬ M b):Row an b off cs:=λi v cN=>ab8 (h i v cN) hm ab
theorem Row.ext{w an:World}{b off:Nat}{cs:List Value}(h:Row w b off cs)(hm:Ext w an):Row an b off cs:=h.keep hm (λx=>x)
theorem Row.eD{w:World}{b:Nat}{cs:List Value}{e:TypeId}{ab9:Nat×Nat}(h:w.heap[b]?=some (.cells cs.toArray e ab9)):Row w b 0 cs:=λi v cN=>by
 simp[World.cell?,h,cN]
theorem Row.sub{w:World}{b off:Nat}{cs:List Value}(h:Row w b off cs)(i n:Nat)(aN:i+n<=cs.length):Row w b (off+i) ((cs.drop i).take n):=λj v cN=>by
 rw[List.getElem?_take] at cN
 split at cN
 . rw[List.getElem?_drop] at cN
   rw[Nat.add_assoc];exact h _ _ cN
 . cases cN
theorem Row.cell{w:World}{b off:Nat}{cs:List Value}(h:Row w b off cs)(i:Nat)(v:Value)(cN:cs[i]?=some v):w.cell? ⟨b,off+i,none⟩=some v:=h i v cN
theorem add_lit(b off i:Nat):(⟨b,off,none⟩:Addr).add i=⟨b,off+i,none⟩:=by unfold Addr.add;split<;>simp_all
def eu(P:Program)(t:TypeId):Option (Bool×Nat×Nat×List Value):=
 match P.info? t,P.underlying t with
 | some i,some d=>match i.zero with
  | some z=>some ((match d with | .struct _=>true | .array _ _=>true|_=>false),i.size,i.bytes,z.cells.toList)
  | none=>none
 | _,_=>none
section
variable {P:Program}
theorem Cb{t:TypeId}{g:Bool}{n by_:Nat}{z:List Value}(h:eu P t=some (g,n,by_,z)):
 ∃i d jZ,P.info? t=some i/\P.underlying t=some d/\i.zero=some jZ/\i.size=n/\i.bytes=by_/\jZ.cells.toList=z/\(match d with | .struct _=>true | .array _ _=>true|_=>false)=g:=by
 unfold eu at h
 cases ar:P.info? t with
 | none=>simp[ar] at h
 | some i =>
  cases hd:P.underlying t with
  | none=>simp[ar,hd] at h
  | some d =>
   cases cS:i.zero with
   | none=>simp[ar,hd,cS] at h
   | some jZ =>
    simp only[ar,hd,cS,Option.some.injEq,Prod.mk.injEq] at h;exact⟨i,d,jZ,rfl,rfl,cS,h.2.1,h.2.2.1,h.2.2.2,h.1⟩
theorem LB{t:TypeId}{g:Bool}{n by_:Nat}{z:List Value}(h:eu P t=some (g,n,by_,z))(w:World):(isAgg t).run P w=.ok g w:=by
 obtain⟨i,d,jZ,h1,ag,aB,bE,c3,eX,kC⟩:=Cb h;unfold isAgg;simp only[Sem.run_bind,run_underlying ag,Result.andThen_ok]
 cases d<;>simp_all
theorem run_sizeOf{t:TypeId}{g:Bool}{n by_:Nat}{z:List Value}(h:eu P t=some (g,n,by_,z))(w:World):(sizeOf t).run P w=.ok n w:=by
 obtain⟨i,d,jZ,h1,ag,aB,bE,c3,eX,kC⟩:=Cb h;simp[sizeOf,typeInfo,h1,bE]
theorem RU{t:TypeId}{g:Bool}{n by_:Nat}{z:List Value}(h:eu P t=some (g,n,by_,z))(w:World):∃jZ,jZ.cells.toList=z/\(zeroValue t).run P w=.ok jZ w:=by
 obtain⟨i,d,jZ,h1,ag,aB,bE,c3,eX,kC⟩:=Cb h;exact⟨jZ,eX,by simp[zeroValue,typeInfo,h1,aB]⟩
theorem LC{t:TypeId}{n by_:Nat}{z:List Value}(h:eu P t=some (true,n,by_,z)){w:World}{b off:Nat}{cs:List Value}(a':Row w b off cs)(aN:cs.length=n):
 (loadVar t ⟨b,off,none⟩).run P w=.ok (.agg cs.toArray) w:=by
 unfold loadVar;have bk:=run_loadCells_list (P:=P) w ⟨b,off,none⟩ cs (λj v cN=>by rw[add_lit];exact a'.cell j v cN);rw[aN] at bk;simp[LB h,run_sizeOf h,bk]
theorem ab_{t:TypeId}{n by_:Nat}{z:List Value}(h:eu P t=some (false,n,by_,z)){w:World}{b off:Nat}{v:Value}(a':Row w b off [v]):
 (loadVar t ⟨b,off,none⟩).run P w=.ok v w:=by
 unfold loadVar;have:=a'.cell 0 v rfl;simp only[Nat.add_zero] at this;simp[LB h,this]
variable {E:Env} {C:World->Prop} {d:Option Tmp} {ty:TypeId} {pos:String} {af:Array Edge} {gd:Option (Nat×Bool)}
theorem bz.move{x:Operand}{v:Value}(ah:aP E x=some v):bz P ⟨d,.move x,ty,pos,af,gd⟩ E C v:=λa ax w _=>by
 simp[execOp,ax.aP ah]
theorem bz.assign{x:Operand}{v:Value}(ah:aP E x=some v):bz P ⟨d,.assign x,ty,pos,af,gd⟩ E C v:=λa ax w _=>by
 simp[execOp,ax.aP ah]
theorem bz.pick{c x y:Operand}{t:Bool}{v:Value}(al:aP E c=some (.bool t))(ah:t=true->aP E x=some v)(aD:t=false->aP E y=some v):
 bz P ⟨d,.pick c x y,ty,pos,af,gd⟩ E C v:=λa ax w _=>by
 cases t with
 | true=>simp[execOp,ax.aP al,ax.aP (ah rfl),asBool]
 | false=>simp[execOp,ax.aP al,ax.aP (aD rfl),asBool]
theorem bz.ab'{c x y:Operand}{v:Value}(al:aP E c=some (.bool true))(ah:aP E x=some v):
 bz P ⟨d,.pick c x y,ty,pos,af,gd⟩ E C v:=bz.pick al (λ_=>ah) (λh=>by cases h)
theorem bz.aca{c x y:Operand}{v:Value}(al:aP E c=some (.bool false))(ah:aP E y=some v):
 bz P ⟨d,.pick c x y,ty,pos,af,gd⟩ E C v:=bz.pick al (λh=>by cases h) (λ_=>ah)
section
variable {x y:Operand} {xt yt:TypeId} {k:IntKind} {p q:Int}
theorem uW(op:BinOp)(t:TypeId)(x y:Operand)(w:World):(eqGuard op t x y (.int k p) (.int k q)).run P w=.ok () w:=by
 unfold eqGuard;split<;>simp
theorem LD(op:BinOp)(t:TypeId)(x y:Operand)(w:World)(s j0:ByteArray):(eqGuard op t x y (.string s) (.string j0)).run P w=.ok () w:=by
 unfold eqGuard;split<;>simp
theorem bz.add(ah:aP E x=some (.int k p))(aD:aP E y=some (.int k q)):bz P ⟨d,.binOp .add xt x y yt,ty,pos,af,gd⟩ E C (.int k (k.wrap (p+q))):=λa ax w _=>by
 simp[execOp,ax.aP ah,ax.aP aD,uW,Go.binOp,Op.intArith]
theorem bz.sub(ah:aP E x=some (.int k p))(aD:aP E y=some (.int k q)):bz P ⟨d,.binOp .sub xt x y yt,ty,pos,af,gd⟩ E C (.int k (k.wrap (p-q))):=λa ax w _=>by
 simp[execOp,ax.aP ah,ax.aP aD,uW,Go.binOp,Op.intArith]
theorem bz.mul(ah:aP E x=some (.int k p))(aD:aP E y=some (.int k q)):bz P ⟨d,.binOp .mul xt x y yt,ty,pos,af,gd⟩ E C (.int k (k.wrap (p*q))):=λa ax w _=>by
 simp[execOp,ax.aP ah,ax.aP aD,uW,Go.binOp,Op.intArith]
theorem bz.quo(ah:aP E x=some (.int k p))(aD:aP E y=some (.int k q))(bH:q≠0):bz P ⟨d,.binOp .quo xt x y yt,ty,pos,af,gd⟩ E C (.int k (k.wrap (p.tdiv q))):=λa ax w _=>by
 simp[execOp,ax.aP ah,ax.aP aD,uW,Go.binOp,Op.intDiv,bH]
theorem bz.rem(ah:aP E x=some (.int k p))(aD:aP E y=some (.int k q))(bH:q≠0):bz P ⟨d,.binOp .rem xt x y yt,ty,pos,af,gd⟩ E C (.int k (p.tmod q)):=λa ax w _=>by
 simp[execOp,ax.aP ah,ax.aP aD,uW,Go.binOp,Op.intDiv,bH]
theorem bz.cb(r:Int)(ah:aP E x=some (.int .i64 p))(aD:aP E y=some (.int .i64 q))(a':p+q=r/\-9223372036854775808<=r/\r<=9223372036854775807):bz P ⟨d,.binOp .add xt x y yt,ty,pos,af,gd⟩ E C (.int .i64 r):=by
 have h:=bz.add (P:=P) (C:=C) (d:=d) (xt:=xt) (yt:=yt) (ty:=ty) (pos:=pos) (af:=af) (gd:=gd) ah aD;rw[IntWalk.i64_in _ aa,a'.1] at h;exact h
theorem bz.h0(r:Int)(ah:aP E x=some (.int .i64 p))(aD:aP E y=some (.int .i64 q))(a':p-q=r/\-9223372036854775808<=r/\r<=9223372036854775807):bz P ⟨d,.binOp .sub xt x y yt,ty,pos,af,gd⟩ E C (.int .i64 r):=by
 have h:=bz.sub (P:=P) (C:=C) (d:=d) (xt:=xt) (yt:=yt) (ty:=ty) (pos:=pos) (af:=af) (gd:=gd) ah aD;rw[IntWalk.i64_in _ aa,a'.1] at h;exact h
theorem bz.RV(r:Int)(ah:aP E x=some (.int .i64 p))(aD:aP E y=some (.int .i64 q))(a':p*q=r/\-9223372036854775808<=r/\r<=9223372036854775807):bz P ⟨d,.binOp .mul xt x y yt,ty,pos,af,gd⟩ E C (.int .i64 r):=by
 have h:=bz.mul (P:=P) (C:=C) (d:=d) (xt:=xt) (yt:=yt) (ty:=ty) (pos:=pos) (af:=af) (gd:=gd) ah aD;rw[IntWalk.i64_in _ (by rw[a'.1];omega),a'.1] at h;exact h
theorem bz.rH(r:Int)(ah:aP E x=some (.int k p))(aD:aP E y=some (.int k q))(a':0<=p/\q≠0/\p % q=r):bz P ⟨d,.binOp .rem xt x y yt,ty,pos,af,gd⟩ E C (.int k r):=by
 have h:=bz.rem (P:=P) (C:=C) (d:=d) (xt:=xt) (yt:=yt) (ty:=ty) (pos:=pos) (af:=af) (gd:=gd) ah aD a'.2.1;rw[Int.tmod_eq_emod_of_nonneg a'.1,a'.2.2] at h;exact h
theorem bz.eq(ah:aP E x=some (.int k p))(aD:aP E y=some (.int k q)):bz P ⟨d,.binOp .eql xt x y yt,ty,pos,af,gd⟩ E C (.bool (p==q)):=λa ax w _=>by
 simp[execOp,ax.aP ah,ax.aP aD,uW,Go.binOp,Op.intCmp]
theorem bz.ne(ah:aP E x=some (.int k p))(aD:aP E y=some (.int k q)):bz P ⟨d,.binOp .neq xt x y yt,ty,pos,af,gd⟩ E C (.bool (p != q)):=λa ax w _=>by
 simp[execOp,ax.aP ah,ax.aP aD,uW,Go.binOp,Op.intCmp]
theorem bz.lt(ah:aP E x=some (.int k p))(aD:aP E y=some (.int k q)):bz P ⟨d,.binOp .lss xt x y yt,ty,pos,af,gd⟩ E C (.bool (decide (p<q))):=λa ax w _=>by
 simp[execOp,ax.aP ah,ax.aP aD,uW,Go.binOp,Op.intCmp]
theorem bz.le(ah:aP E x=some (.int k p))(aD:aP E y=some (.int k q)):bz P ⟨d,.binOp .leq xt x y yt,ty,pos,af,gd⟩ E C (.bool (decide (p<=q))):=λa ax w _=>by
 simp[execOp,ax.aP ah,ax.aP aD,uW,Go.binOp,Op.intCmp]
theorem bz.gt(ah:aP E x=some (.int k p))(aD:aP E y=some (.int k q)):bz P ⟨d,.binOp .gtr xt x y yt,ty,pos,af,gd⟩ E C (.bool (decide (q<p))):=λa ax w _=>by
 simp[execOp,ax.aP ah,ax.aP aD,uW,Go.binOp,Op.intCmp]
theorem bz.ge(ah:aP E x=some (.int k p))(aD:aP E y=some (.int k q)):bz P ⟨d,.binOp .geq xt x y yt,ty,pos,af,gd⟩ E C (.bool (decide (q<=p))):=λa ax w _=>by
 simp[execOp,ax.aP ah,ax.aP aD,uW,Go.binOp,Op.intCmp]
theorem toList_mk(s:aj):(⟨s.toArray⟩:ByteArray).toList=s:=by
 rw[ByteArray.toList_eq]
theorem bz.Eh{s t:aj}(ah:aP E x=some (aE s))(aD:aP E y=some (aE t)):bz P ⟨d,.binOp .eql xt x y yt,ty,pos,af,gd⟩ E C (.bool (s==t)):=λa ax w _=>by
 simp[execOp,ax.aP ah,ax.aP aD,aE,LD,Go.binOp,Op.stringOp]
theorem bz.Hp{s t:aj}(ah:aP E x=some (aE s))(aD:aP E y=some (aE t)):bz P ⟨d,.binOp .neq xt x y yt,ty,pos,af,gd⟩ E C (.bool (!(s==t))):=λa ax w _=>by
 simp[execOp,ax.aP ah,ax.aP aD,aE,LD,Go.binOp,Op.stringOp]
theorem bz.uX{s t:aj}(ah:aP E x=some (aE s))(aD:aP E y=some (aE t))(bk:s.length+t.length<=9223372036854775807):bz P ⟨d,.binOp .add xt x y yt,ty,pos,af,gd⟩ E C (aE (s++t)):=λa ax w _=>by
 have h1:¬ ((9223372036854775807:Int)<((s.length:Int)+(t.length:Int))):=by omega
 have ag:(⟨s.toArray⟩:ByteArray)++⟨t.toArray⟩=⟨(s++t).toArray⟩:=by
  apply ByteArray.ext
  simp
 have aB:(⟨s.toArray⟩:ByteArray).size=s.length:=by simp[ByteArray.size]
 have bE:(⟨t.toArray⟩:ByteArray).size=t.length:=by simp[ByteArray.size]
 simp[execOp,ax.aP ah,ax.aP aD,aE,LD,Go.binOp,Op.stringOp,ag,aB,bE,IntKind.max,IntKind.signed,IntKind.bits,h1]
theorem RW(op:BinOp)(t:TypeId)(x y:Operand)(w:World)(a b:Bool):(eqGuard op t x y (.bool a) (.bool b)).run P w=.ok () w:=by
 unfold eqGuard;split<;>simp
theorem bz.LF{s t:Bool}(hu:P.underlying xt=some .bool)(ah:aP E x=some (.bool s))(aD:aP E y=some (.bool t)):bz P ⟨d,.binOp .eql xt x y yt,ty,pos,af,gd⟩ E C (.bool (s==t)):=λa ax w _=>by
 simp[execOp,ax.aP ah,ax.aP aD,RW,Go.binOp,run_equal_bool w xt s t hu]
theorem bz.RX{s t:Bool}(hu:P.underlying xt=some .bool)(ah:aP E x=some (.bool s))(aD:aP E y=some (.bool t)):bz P ⟨d,.binOp .neq xt x y yt,ty,pos,af,gd⟩ E C (.bool (!(s==t))):=λa ax w _=>by
 simp[execOp,ax.aP ah,ax.aP aD,RW,Go.binOp,run_equal_bool w xt s t hu]
theorem bz.not{s:Bool}(ah:aP E x=some (.bool s)):bz P ⟨d,.unOp .not xt x,ty,pos,af,gd⟩ E C (.bool (!s)):=λa ax w _=>by
 simp[execOp,ax.aP ah,Op.unary]
end
theorem bz.extract{x:Operand}{vs:Array Value}{i:Nat}{v:Value}(ah:aP E x=some (.tuple vs))(cN:vs[i]?=some v):bz P ⟨d,.extract x i,ty,pos,af,gd⟩ E C v:=λa ax w _=>by
 simp[execOp,ax.aP ah,Instr.extract,cN]
def dI(P:Program)(t:TypeId)(i:Nat):Option Nat:=
 match P.underlying t with
 | some (.struct ly)=>match ly[i]? with
  | some f=>match P.info? f.type with
   | some j=>match Nat.beq j.size 0 with
    | true=>none
    | false=>some f.offset
   | none=>none
  | none=>none
 | _=>none
theorem bz.fieldAddr{t:TypeId}{x:Operand}{i b off o:Nat}(bC:dI P t i=some o)(ah:aP E x=some (ptr b off)):
 bz P ⟨d,.fieldAddr t x i,ty,pos,af,gd⟩ E C (ptr b (off+o)):=λa ax w _=>by
 unfold dI at bC
 split at bC
 . rename_i ly hu
   split at bC
   . rename_i f qu
     split at bC
     . rename_i j bn
       split at bC
       . cases bC
       . rename_i ab
         simp only[Option.some.injEq] at bC
         have bH:¬ j.size=0:=λe=>by rw[e] at ab;cases ab
         simp[execOp,ax.aP ah,ptr,Instr.fieldAt,Instr.sureAddr,run_underlying hu,qu,fieldPlace,sizeOf,typeInfo,bn,bH,add_lit,bC]
     . cases bC
   . cases bC
 . cases bC
theorem bz.load{t:TypeId}{x:Operand}{b off:Nat}{v:Value}(ah:aP E x=some (ptr b off))(bk:∀w,C w->(loadVar t ⟨b,off,none⟩).run P w=.ok v w):
 bz P ⟨d,.load t x,ty,pos,af,gd⟩ E C v:=λa ax w hC=>by
 simp[execOp,ax.aP ah,ptr,Instr.loadAt,Instr.sureAddr,bk w hC]
theorem bz.cd{t:TypeId}{x:Operand}{b off n by_:Nat}{z:List Value}{v:Value}(a8:eu P t=some (false,n,by_,z))(ah:aP E x=some (ptr b off))(a':∀w,C w->Row w b off [v]):
 bz P ⟨d,.load t x,ty,pos,af,gd⟩ E C v:=bz.load ah λw hw=>ab_ a8 (a' w hw)
theorem bz.cy{t:TypeId}{x:Operand}{b off n by_:Nat}{z cs:List Value}(a8:eu P t=some (true,n,by_,z))(ah:aP E x=some (ptr b off))(a':∀w,C w->Row w b off cs)(aN:cs.length=n):
 bz P ⟨d,.load t x,ty,pos,af,gd⟩ E C (.agg cs.toArray):=bz.load ah λw hw=>LC a8 (a' w hw) aN
end
section
variable {α:Type}
def aq(enc:α->List Value)(w:World)(F:Nat->Prop)(v:Value)(l:List α):Prop:=
 ∃a cap,v=.slice a l.length cap/\l.length<=cap/\cap<=maxLen/\(l=[]\/∃b off,a=some ⟨b,off,none⟩/\F b/\Row w b off (l.flatMap enc))
variable {enc:α->List Value} {w:World} {F:Nat->Prop} {v:Value} {l:List α}
theorem aq.nil:aq enc w F (.slice none 0 0) []:=⟨none,0,rfl,Nat.le_refl _,Nat.zero_le _,.inl rfl⟩
theorem aq.keep{M:Nat->Prop}{an:World}(h:aq enc w F v l)(hm:Mod M w an)(br:∀b,F b->¬ M b):aq enc an F v l:=by
 obtain⟨a,cap,h1,ag,aB,bE⟩:=h;refine⟨a,cap,h1,ag,aB,?_⟩;rcases bE with bE|⟨b,off,c3,eX,kC⟩
 . exact .inl bE
 . exact .inr ⟨b,off,c3,eX,kC.keep hm (br b eX)⟩
theorem aq.ext{an:World}(h:aq enc w F v l)(hm:Ext w an):aq enc an F v l:=h.keep hm (λ_ _ h=>h)
theorem aq.mono{F':Nat->Prop}(h:aq enc w F v l)(br:∀b,F b->F' b):aq enc w F' v l:=by
 obtain⟨a,cap,h1,ag,aB,bE⟩:=h;refine⟨a,cap,h1,ag,aB,?_⟩;rcases bE with bE|⟨b,off,c3,eX,kC⟩
 . exact .inl bE
 . exact .inr ⟨b,off,c3,br b eX,kC⟩
theorem aq.le(h:aq enc w F v l):l.length<=9223372036854775807:=by
 obtain⟨a,cap,h1,ag,aB,bE⟩:=h;exact Nat.le_trans ag aB
theorem aq.shape(h:aq enc w F v l):∃a cap,v=.slice a l.length cap:=by
 obtain⟨a,cap,h1,ag,aB,bE⟩:=h;exact⟨a,cap,h1⟩
theorem Hq{sz:Nat}(dM:∀x,(enc x).length=sz):∀(l:List α) (i:Nat) (h:i<l.length),((l.flatMap enc).drop (i*sz)).take sz=enc l[i]/\i*sz+sz<=(l.flatMap enc).length
 | x::l,0,_=>by
  refine⟨?_,by simp[List.flatMap_cons,dM]⟩
  simp only[Nat.zero_mul,List.drop_zero,List.flatMap_cons,List.getElem_cons_zero]
  rw[<-dM x,List.take_left']
  rfl
 | x::l,i+1,h=>by
  have cc:=Hq dM l i (by simpa using h)
  simp only[List.flatMap_cons,List.getElem_cons_succ]
  have e:(i+1)*sz=(enc x).length+i*sz:=by rw[dM,Nat.add_mul];omega
  rw[e,List.drop_append,List.drop_of_length_le aa,Nat.add_sub_cancel_left,List.nil_append]
  refine⟨cc.1,?_⟩
  rw[List.length_append];have:=cc.2;omega
theorem rI{sz:Nat}(dM:∀x,(enc x).length=sz)(l:List α):(l.flatMap enc).length=l.length*sz:=by
 induction l with
 | nil=>simp
 | cons x l cc=>simp only[List.flatMap_cons,List.length_append,dM,cc,List.length_cons,Nat.add_mul];omega
theorem acb{sz:Nat}(dM:∀x,(enc x).length=sz)(l:List α)(i:Nat):(l.flatMap enc).drop (i*sz)=(l.drop i).flatMap enc:=by
 induction i generalizing l with
 | zero=>simp
 | succ i cc =>
  cases l with
  | nil=>simp
  | cons x l =>
   have e:(i+1)*sz=(enc x).length+i*sz:=(by rw[dM,Nat.add_mul];omega);simp only[List.flatMap_cons,List.drop_succ_cons];rw[e,List.drop_append,List.drop_of_length_le aa,Nat.add_sub_cancel_left,List.nil_append,cc]
theorem RY{sz:Nat}(dM:∀x,(enc x).length=sz)(l:List α)(i:Nat):(l.flatMap enc).take (i*sz)=(l.take i).flatMap enc:=by
 induction i generalizing l with
 | zero=>simp
 | succ i cc =>
  cases l with
  | nil=>simp
  | cons x l =>
   have e:(i+1)*sz=(enc x).length+i*sz:=(by rw[dM,Nat.add_mul];omega);simp only[List.flatMap_cons,List.take_succ_cons];rw[e,List.take_append,List.take_of_length_le aa,Nat.add_sub_cancel_left,cc]
section
variable {P:Program} {t e:TypeId}
theorem aq.at{sz by_:Nat}{g:Bool}{z:List Value}(h:aq enc w F v l)(a8:P.underlying t=some (.slice e))(he:eu P e=some (g,sz,by_,z))(dM:∀x,(enc x).length=sz){k:IntKind}{n:Int}(i:Nat)(aN:n=(i:Int))(ar:i<l.length):
 ∃b off,(∀w,(Instr.indexAt t v (.int k n)).run P w=.ok (ptr b off) w)/\F b/\Row w b off (enc l[i]):=by
 obtain⟨a,cap,rfl,ag,aB,bE⟩:=h;rcases bE with rfl|⟨b,off,rfl,c3,eX⟩
 . simp at ar
 . refine⟨b,off+i*sz,λw=>?_,c3,?_⟩
   . have:(0:Int)<=n/\n<(l.length:Int):=by omega
     have e:n.toNat=i:=(by omega);simp[Instr.indexAt,asIntOf,run_underlying a8,this,run_sizeOf he,add_lit,ptr,e]
   . have bC:=Hq dM l i ar;have:=eX.sub (i*sz) sz bC.2;rw[bC.1] at this;exact this
end
variable {P:Program} {E:Env} {C:World->Prop} {d:Option Tmp} {ty:TypeId} {pos:String} {af:Array Edge} {gd:Option (Nat×Bool)}
theorem bz.indexAddr{t:TypeId}{x y:Operand}{v u p:Value}(ah:aP E x=some v)(aD:aP E y=some u)(h:∀w,(Instr.indexAt t v u).run P w=.ok p w):bz P ⟨d,.indexAddr t x y,ty,pos,af,gd⟩ E C p:=λa ax w _=>by
 simp[execOp,ax.aP ah,ax.aP aD,h w]
theorem bz.len{t e:TypeId}{x:Operand}{a:Option Addr}{n c:Nat}(hu:P.underlying t=some (.slice e))(ah:aP E x=some (.slice a n c)):bz P ⟨d,.call { callee:=.builtin .len,args:=#[x],argTypes:=#[t] },ty,pos,af,gd⟩ E C (.int .i64 n):=λs ax w _=>by
 simp[execOp,resolve,invoke,builtin,ax.aP ah,Builtin.len_,goInt,run_underlying hu]
theorem bz.ct{t e:TypeId}{x:Operand}(hu:P.underlying t=some (.slice e))(h:aq enc w F v l)(ah:aP E x=some v):bz P ⟨d,.call { callee:=.builtin .len,args:=#[x],argTypes:=#[t] },ty,pos,af,gd⟩ E C (.int .i64 l.length):=by
 obtain⟨a,c,rfl⟩:=h.shape;exact bz.len hu ah
theorem bz.oD{t:TypeId}{x:Operand}{s:aj}(hu:P.underlying t=some .string)(ah:aP E x=some (aE s)):bz P ⟨d,.call { callee:=.builtin .len,args:=#[x],argTypes:=#[t] },ty,pos,af,gd⟩ E C (.int .i64 s.length):=λa ax w _=>by
 have aB:(⟨s.toArray⟩:ByteArray).size=s.length:=by simp[ByteArray.size]
 simp[execOp,resolve,invoke,builtin,ax.aP ah,aE,Builtin.len_,goInt,run_underlying hu,aB]
theorem LG(k:IntKind)(p q:Int)(w:World):(Builtin.min2 (.int k p) (.int k q)).run P w=.ok (.int k (min p q)) w:=by
 simp only[Builtin.min2,Sem.run_pure];rw[Int.min_def];split<;>split<;>first|rfl|omega
theorem acd(k:IntKind)(p q:Int)(w:World):(Builtin.max2 (.int k p) (.int k q)).run P w=.ok (.int k (max p q)) w:=by
 simp only[Builtin.max2,Sem.run_pure];rw[Int.max_def];split<;>split<;>first|rfl|(congr 2;omega)|omega
theorem bz.min{x y:Operand}{k:IntKind}{p q:Int}{mu:Array TypeId}(ah:aP E x=some (.int k p))(aD:aP E y=some (.int k q)):bz P ⟨d,.call { callee:=.builtin .min,args:=#[x,y],argTypes:=mu },ty,pos,af,gd⟩ E C (.int k (Min.min p q)):=λa ax w _=>by
 simp[execOp,resolve,invoke,builtin,ax.aP ah,ax.aP aD,Builtin.min_,LG]
theorem bz.max{x y:Operand}{k:IntKind}{p q:Int}{mu:Array TypeId}(ah:aP E x=some (.int k p))(aD:aP E y=some (.int k q)):bz P ⟨d,.call { callee:=.builtin .max,args:=#[x,y],argTypes:=mu },ty,pos,af,gd⟩ E C (.int k (Max.max p q)):=λa ax w _=>by
 simp[execOp,resolve,invoke,builtin,ax.aP ah,ax.aP aD,Builtin.max_,acd]
theorem bz.RZ{x y z:Operand}{k:IntKind}{p q r:Int}{mu:Array TypeId}(ah:aP E x=some (.int k p))(aD:aP E y=some (.int k q))(cS:aP E z=some (.int k r)):bz P ⟨d,.call { callee:=.builtin .min,args:=#[x,y,z],argTypes:=mu },ty,pos,af,gd⟩ E C (.int k (Min.min (Min.min p q) r)):=λa ax w _=>by
 simp[execOp,resolve,invoke,builtin,ax.aP ah,ax.aP aD,ax.aP cS,Builtin.min_,LG]
theorem bz.R0{x y z u:Operand}{k:IntKind}{p q r t:Int}{mu:Array TypeId}(ah:aP E x=some (.int k p))(aD:aP E y=some (.int k q))(cS:aP E z=some (.int k r))(hu:aP E u=some (.int k t)):bz P ⟨d,.call { callee:=.builtin .min,args:=#[x,y,z,u],argTypes:=mu },ty,pos,af,gd⟩ E C (.int k (Min.min (Min.min (Min.min p q) r) t)):=λa ax w _=>by
 simp[execOp,resolve,invoke,builtin,ax.aP ah,ax.aP aD,ax.aP cS,ax.aP hu,Builtin.min_,LG]
theorem bz.rJ{s t:TypeId}{x:Operand}{k jz:IntKind}{p:Int}(aT:(P.underlying s).isSome=true)(a8:P.underlying t=some (.int jz))(ah:aP E x=some (.int k p)):bz P ⟨d,.convert s t x,ty,pos,af,gd⟩ E C (.int jz (jz.wrap p)):=λa ax w _=>by
 obtain⟨rK,An⟩:=Option.isSome_iff_exists.1 aT
 simp[execOp,ax.aP ah,convert,run_underlying An,run_underlying a8,Conv.intToInt]
def fE(r:Int):aj:=(Utf8.encode r).data.toList
theorem bz.vZ{s t:TypeId}{x:Operand}{k:IntKind}{p:Int}(aT:(P.underlying s).isSome=true)(a8:P.underlying t=some .string)(ah:aP E x=some (.int k p)):bz P ⟨d,.convert s t x,ty,pos,af,gd⟩ E C (aE (fE p)):=λa ax w _=>by
 simp[execOp,ax.aP ah,run_convert_int_string w s t k p aT a8,aE,fE]
theorem bz.ace{t:TypeId}{x y:Operand}{s:aj}{k:IntKind}{n:Int}(i:Nat)(a8:P.underlying t=some .string)(ah:aP E x=some (aE s))(aD:aP E y=some (.int k n))(aN:n=(i:Int))(ar:i<s.length):
 bz P ⟨d,.index t x y,ty,pos,af,gd⟩ E C (.int .u8 (s[i].toNat:Int)):=λa ax w _=>by
 have h1:(⟨s.toArray⟩:ByteArray)[i]?=some s[i]:=by
  have hN:i<(⟨s.toArray⟩:ByteArray).size:=by simpa[ByteArray.size] using ar
  rw[getElem?_pos _ i hN]
  rfl
 have ag:(0:Int)<=n:=by omega
 have aB:n.toNat=i:=by omega
 simp[execOp,ax.aP ah,ax.aP aD,Instr.index,asIntOf,aE,run_underlying a8,ag,aB,h1]
theorem tT{k:IntKind}{n:Int}{y i:Nat}(code:BoundsCode)(aN:n=(i:Int))(ar:i<=y)(w:World):(Instr.sliceBound (.int k n) y code).run P w=.ok i w:=by
 have h1:0<=n/\n<=(y:Int):=(by omega);have ag:n.toNat=i:=(by omega);simp[Instr.sliceBound,asIntOf,h1,ag]
theorem LH(s:aj)(i j:Nat):(⟨s.toArray⟩:ByteArray).extract i j=⟨((s.take j).drop i).toArray⟩:=by
 apply ByteArray.ext;rw[ByteArray.data_extract];apply Array.ext';simp[List.drop_take]
theorem bz.LI{t:TypeId}{x y:Operand}{s:aj}{k:IntKind}{n:Int}(i:Nat)(a8:P.underlying t=some .string)(ah:aP E x=some (aE s))(aD:aP E y=some (.int k n))(aN:n=(i:Int))(ar:i<=s.length):
 bz P ⟨d,.slice t x (some y) none none,ty,pos,af,gd⟩ E C (aE (s.drop i)):=λa ax w _=>by
 have aB:(⟨s.toArray⟩:ByteArray).size=s.length:=by simp[ByteArray.size]
 simp[execOp,ax.aP ah,ax.aP aD,Instr.sliceAt,Instr.slice,Instr.sliceBounds,aE,run_underlying a8,aB,tT _ aN ar,LH]
theorem bz.LJ{t:TypeId}{x y:Operand}{s:aj}{k:IntKind}{n:Int}(i:Nat)(a8:P.underlying t=some .string)(ah:aP E x=some (aE s))(aD:aP E y=some (.int k n))(aN:n=(i:Int))(ar:i<=s.length):
 bz P ⟨d,.slice t x none (some y) none,ty,pos,af,gd⟩ E C (aE (s.take i)):=λa ax w _=>by
 have aB:(⟨s.toArray⟩:ByteArray).size=s.length:=by simp[ByteArray.size]
 simp[execOp,ax.aP ah,ax.aP aD,Instr.sliceAt,Instr.slice,Instr.sliceBounds,aE,run_underlying a8,aB,tT _ aN ar,LH]
theorem aq.part{t e:TypeId}{sz by_:Nat}{g:Bool}{z:List Value}(h:aq enc w F v l)(a8:P.underlying t=some (.slice e))(he:eu P e=some (g,sz,by_,z))(dM:∀x,(enc x).length=sz)
 {c5 ar:Option Value} (i j:Nat) (Cc:(c5=none/\i=0)\/∃k n,c5=some (.int k n)/\n=(i:Int)) (p3:(ar=none/\j=l.length)\/∃k n,ar=some (.int k n)/\n=(j:Int)) (m':i<=j) (bn:j<=l.length) :
 ∃gS,(∀w,(Instr.sliceAt t v c5 ar none).run P w=.ok gS w)/\aq enc w F gS ((l.take j).drop i):=by
 have ab:∀(cap:Nat) (al:l.length<=cap) (w:World),(Instr.sliceBounds true l.length cap c5 ar none).run P w=.ok (i,j,cap) w:=by
  intro cap al w
  rcases Cc with ⟨rfl,rfl⟩|⟨k,n,rfl,aN⟩<;>rcases p3 with ⟨rfl,rfl⟩|⟨jz,m,rfl,hm⟩
  . simp[Instr.sliceBounds]
  . simp[Instr.sliceBounds,tT _ hm (Nat.le_trans bn al)]
  . simp[Instr.sliceBounds,tT _ aN m']
  . simp[Instr.sliceBounds,tT _ hm (Nat.le_trans bn al),tT _ aN m']
 obtain⟨a,cap,rfl,ag,aB,bE⟩:=h;have hlen:((l.take j).drop i).length=j-i:=(by rw[List.length_drop,List.length_take];omega);refine⟨.slice (if cap=i then a else a.map (·.add (i*sz))) (j-i) (cap-i),λw=>?_,?_⟩
 . simp[Instr.sliceAt,Instr.slice,run_underlying a8,ab cap ag w,run_sizeOf he]
 . refine⟨_,cap-i,by rw[hlen],by omega,by omega,?_⟩;by_cases aN:(l.take j).drop i=[]
   . exact .inl aN
   . rcases bE with bE|⟨b,off,rfl,c3,eX⟩
     . exact absurd (by subst bE;simp) aN
     . have i6:i<j:=by
        rcases Nat.lt_or_ge i j with h|h
        . exact h
        . exact absurd (List.eq_nil_of_length_eq_zero aa) aN
       have al:cap≠i:=(by omega);refine .inr ⟨b,off+i*sz,by rw[if_neg al];simp[add_lit],c3,?_⟩;have tU:=rI dM l
       have hle:i*sz+(j-i)*sz<=(l.flatMap enc).length:=by
        rw[tU,<-Nat.add_mul]
        exact Nat.mul_le_mul_right _ aa
       have:=eX.sub (i*sz) ((j-i)*sz) hle;rw[acb dM,RY dM,<-List.drop_take] at this;exact this
theorem bz.qX{t:TypeId}{x:Operand}{c5 ar R1:Option Operand}{v gS:Value}{Ao uY:Option Value}(ah:aP E x=some v)(Cc:c5.map (aP E)=Ao.map some)(p3:ar.map (aP E)=uY.map some)(acf:R1=none)
 (h:∀w,(Instr.sliceAt t v Ao uY none).run P w=.ok gS w):bz P ⟨d,.slice t x c5 ar R1,ty,pos,af,gd⟩ E C gS:=λa ax w _=>by
 have h1:c5.map a.eval=Ao:=by
  cases c5<;>cases Ao<;>simp at Cc ⊢
  exact ax.aP Cc
 have ag:ar.map a.eval=uY:=by
  cases ar<;>cases uY<;>simp at p3 ⊢
  exact ax.aP p3
 subst acf
 simp[execOp,ax.aP ah,h1,ag,h w]
theorem bz.build{t:TypeId}{hs:Array (Nat×Operand)}{vs:Array (Nat×Value)}{v:Value}(hp:(hs.toList.map λp=>(aP E p.2).map (p.1,·))=vs.toList.map some)(a':∀w,(Instr.build t vs).run P w=.ok v w):
 bz P ⟨d,.build t hs,ty,pos,af,gd⟩ E C v:=λa ax w _=>by
 have h1:(hs.map λ(i,x)=>(i,a.eval x))=vs:=by
  apply Array.ext'
  rw[Array.toList_map]
  have aux:∀(l:List (Nat×Operand)) (r:List (Nat×Value)),(l.map λp=>(aP E p.2).map (p.1,·))=r.map some->l.map (λx=>(x.1,a.eval x.2))=r:=by
   intro l
   induction l with
   | nil=>intro r h;cases r<;>simp_all
   | cons p l cc =>
    intro r h
    cases r with
    | nil=>simp at h
    | cons q r =>
     simp only[List.map_cons,List.cons.injEq] at h ⊢
     refine⟨?_,cc r h.2⟩
     cases he:aP E p.2 with
     | none=>simp[he] at h
     | some u =>
      simp only[he,Option.map_some,Option.some.injEq] at h
      rw[ax.aP he];exact h.1
  exact aux _ _ hp
 simp only[execOp,h1,Sem.run_bind,a' w,Result.andThen_ok,Sem.run_pure]
end
end Go.aF
namespace Go.aF
open Go
def du(w:World)(b:Nat)(cs:List Value)(e:TypeId):Prop:=w.heap[b]?=some (.cells cs.toArray e (0,0))
theorem du.keep{M:Nat->Prop}{w an:World}{b:Nat}{cs:List Value}{e:TypeId}(h:du w b cs e)(hm:Mod M w an)(ab:¬ M b):du an b cs e:=hm.keep _ _ h ab
theorem du.ext{w an:World}{b:Nat}{cs:List Value}{e:TypeId}(h:du w b cs e)(hm:Ext w an):du an b cs e:=hm.keep _ _ h (λx=>x)
theorem du.lt{w:World}{b:Nat}{cs:List Value}{e:TypeId}(h:du w b cs e):b<w.heap.size:=(Array.getElem?_eq_some_iff.1 h).1
theorem du.row{w:World}{b:Nat}{cs:List Value}{e:TypeId}(h:du w b cs e):Row w b 0 cs:=Row.eD h
theorem du.part{w:World}{b:Nat}{cs:List Value}{e:TypeId}(h:du w b cs e)(i n:Nat)(aN:i+n<=cs.length):Row w b i ((cs.drop i).take n):=by
 have:=h.row.sub i n aN;simpa using this
theorem du.cell{w:World}{b:Nat}{cs:List Value}{e:TypeId}(h:du w b cs e)(i:Nat)(v:Value)(cN:cs[i]?=some v):Row w b i [v]:=by
 have hN:i<cs.length:=(List.getElem?_eq_some_iff.1 cN).1;have:=h.part i 1 aa
 have je:(cs.drop i).take 1=[v]:=by
  rw[List.drop_eq_getElem_cons hN]
  have:=(List.getElem?_eq_some_iff.1 cN).2
  simp[this]
 rwa[je] at this
theorem Hr(w:World)(g:Nat)(c:Array Value):Mod (λi=>i=g) w (w.setRow g c):=
 ⟨rfl,rfl,rfl,by simp[World.setRow],λb o ab dL=>by
  rw[setRow_other w g b c (λe=>dL e)];exact ab⟩
section
variable {P:Program} {E:Env} {d:Option Tmp} {ty:TypeId} {pos:String} {af:Array Edge} {gd:Option (Nat×Bool)} {w:World} {K:Value->World->Prop}
theorem gF.box{t:TypeId}{x:Operand}{v:Value}(cs:List Value)(ah:aP E x=some v)(cN:v.cells.toList=cs)(eC:∀an b,Ext w an->b=w.heap.size->an.heap.size=w.heap.size+1->du an b cs t->K (ptr b 0) an):
 gF P ⟨d,.box t x,ty,pos,af,gd⟩ E w K:=λa ax=>by
 have h:=eC (w.alloc (.cells cs.toArray t)) w.heap.size (Mod.alloc _ _ _) rfl di (by
  show(w.heap.push _)[w.heap.size]?=_
  simp)
 have e:v.cells=cs.toArray:=by rw[<-cN]
 simp[execOp,ax.aP ah,Instr.box,newVar,newRow,out,e]
 exact h
theorem gF.alloc{t:TypeId}{g:Bool}{n by_:Nat}{z:List Value}(a8:eu P t=some (g,n,by_,z))(eC:∀an b,Ext w an->b=w.heap.size->an.heap.size=w.heap.size+1->du an b z t->K (ptr b 0) an):
 gF P ⟨d,.alloc t,ty,pos,af,gd⟩ E w K:=λa ax=>by
 have h:=eC (w.alloc (.cells z.toArray t)) w.heap.size (Mod.alloc _ _ _) rfl di (by
  show(w.heap.push _)[w.heap.size]?=_
  simp)
 obtain⟨jZ,cS,a'⟩:=RU a8 w
 have e:jZ.cells=z.toArray:=by rw[<-cS]
 simp[execOp,Instr.alloc,a',newVar,newRow,out,e]
 exact h
theorem gF.store{t e:TypeId}{x y:Operand}{v:Value}{b off n by_:Nat}{g:Bool}{z cs vs:List Value}(a8:eu P t=some (g,n,by_,z))(ah:aP E x=some (ptr b off))(aD:aP E y=some v)
 (cN:v.cells.toList=vs) (aN:vs.length=n) (h1:vs.all (·.oneCell')=true) (ab:du w b cs e) (bk:off+n<=cs.length)
 (eC:∀an,Mod (λi=>i+1=b+1) w an->an.heap.size=w.heap.size->du an b (cs.take off++vs++cs.drop (off+n)) e->K undef an):gF P ⟨d,.store t x y,ty,pos,af,gd⟩ E w K:=λa ax=>by
 have mK:=run_storeCells_at P b off e vs 0 cs.toArray w ab (by simp;omega) (λu hu=>List.all_eq_true.1 h1 u hu)
 have dM:v.cells.size=n:=by rw[<-Array.length_toList,cN];exact aN
 have h:=eC (w.setRow b (cs.take off++vs++cs.drop (off+n)).toArray) ((Hr _ _ _).weaken (λi ar _=>by omega)) (by simp[World.setRow]) (by
  have:=setRow_heap w b cs.toArray (cs.take off++vs++cs.drop (off+n)).toArray e (0,0) ab
  exact this)
 simp only[Nat.add_zero,aN] at mK
 simp[execOp,ax.aP ah,ax.aP aD,ptr,Instr.storeAt,Instr.sureAddr,storeVar,run_sizeOf a8,dM,cN,mK,out]
 simpa using h
def b7(P:Program)(g:FuncId):Bool:=
 match P.funcs[g]? with
 | some fn => (!(fn.name == "runtime.NumGoroutine")) && fn.body.isSome
 | none=>false
theorem acg{g:FuncId}(h:b7 P g=true)(args:Array Value)(w:World):(callFunc g args).run P w=.ok (.enter g args) w:=by
 unfold b7 at h
 cases bC:P.funcs[g]? with
 | none=>simp[bC] at h
 | some fn =>
  simp only[bC,Bool.and_eq_true,Bool.not_eq_true'] at h
  have h1 : ¬ (fn.name = "runtime.NumGoroutine") := by simpa using h.1
  cases ab:fn.body with
  | none=>simp[ab] at h
  | some c=>simp[callFunc,bC,h1,ab]
def qY(E:Env):List Operand->Option (List Value)
 | []=>some []
 | x::r=>match aP E x with
  | some v=>match qY E r with
   | some vs=>some (v::vs)
   | none=>none
  | none=>none
theorem Has.qY{a:Act}(ax:Has E a):∀{xs:List Operand} {vs:List Value},aF.qY E xs=some vs->xs.map a.eval=vs
 | [],vs,h=>by simp[aF.qY] at h;simp[h]
 | x::r,vs,h=>by
  simp only[aF.qY] at h
  cases ah:aF.aP E x with
  | none=>simp[ah] at h
  | some v =>
   cases a':aF.qY E r with
   | none=>simp[ah,a'] at h
   | some us =>
    simp only[ah,a',Option.some.injEq] at h
    rw[<-h,List.map_cons,ax.aP ah,Has.qY ax a']
def ao(rL:Value->World->Prop):Ending->World->Prop:=λe an=>∃v,e=.returned v/\rL v an
theorem gF.call{g:FuncId}{c:Operand}{xs:List Operand}{mu:Array TypeId}{first cap:List Value}{vs:List Value}{rL:Value->World->Prop}(aU:b7 P g=true)(al:aP E c=some (.func (.func g) first.toArray cap.toArray))
 (ah:qY E xs=some vs) (h:Calls P g (first++vs++cap).toArray w (ao rL)) (eC:∀v an,rL v an->K v an) :
 gF P ⟨d,.call { callee:=.value c,args:=xs.toArray,argTypes:=mu },ty,pos,af,gd⟩ E w K:=λa ax=>by
 have Ei:xs.toArray.map a.eval=vs.toArray:=by
  apply Array.ext'
  simpa using ax.qY ah
 have:(execOp a.eval ⟨d,.call { callee:=.value c,args:=xs.toArray,argTypes:=mu },ty,pos,af,gd⟩).run P w=.ok (.enter g (first++vs++cap).toArray) w:=by
  simp only[execOp,resolve,ax.aP al,Ei,Deferred.ofValue,Sem.run_bind,Sem.run_pure,Result.andThen_ok,invoke]
  rw[acg aU]
  simp
 rw[this]
 exact Calls.mono h (λe an ⟨v,he,cN⟩=>⟨v,he,eC _ _ cN⟩)
theorem R2(P:Program)(sz:Nat):∀(vs:List Value) (k:Nat) (pre rest:List Value),pre.length=k*sz->rest.length=vs.length*sz->(∀v∈vs,v.cells.size=sz) ->
 Instr.fill (λi=>some (i*sz,sz)) (pre++rest).toArray ((vs.zipIdx k).map λp=>(p.2,p.1))=some (pre++vs.flatMap (λv=>v.cells.toList)).toArray
 | [],k,pre,rest,hp,a',h=>by
  have:rest=[]:=List.eq_nil_of_length_eq_zero (by simpa using a')
  simp[Instr.fill,this]
 | v::vs,k,pre,rest,hp,a',h=>by
  have cN:v.cells.size=sz:=h v di
  have hlen:rest.length=sz+vs.length*sz:=by simpa[Nat.add_mul,Nat.add_comm] using a'
  simp only[List.zipIdx_cons,List.map_cons,Instr.fill]
  have al:(decide (v.cells.size≠sz) || decide (k*sz+v.cells.size>(pre++rest).toArray.size))=false:=by
   simp[cN,hp,hlen]
  simp only[ne_eq] at al
  rw[if_neg (by simpa using al)]
  have ach:∀(cs:List Value) (j:Nat) (arr:Array Value) (Cd v7:List Value) (post:List Value),arr=(Cd++v7++post).toArray->Cd.length=k*sz+j->v7.length=cs.length ->
   (cs.zipIdx j).foldl (λ(a:Array Value) (x:Value×Nat)=>a.setIfInBounds (k*sz+x.2) x.1) arr=(Cd++cs++post).toArray:=by
   intro cs
   induction cs with
   | nil=>intro j arr Cd v7 post ax h1 ag;have:v7=[]:=List.eq_nil_of_length_eq_zero (by simpa using ag);simp[ax,this]
   | cons c cs cc =>
    intro j arr Cd v7 post ax h1 ag
    cases v7 with
    | nil=>simp at ag
    | cons m v7 =>
     simp only[List.zipIdx_cons,List.foldl_cons]
     have:=cc (j+1) (arr.setIfInBounds (k*sz+j) c) (Cd++[c]) v7 post (by
      subst ax
      apply Array.ext'
      rw[Array.toList_setIfInBounds]
      simp only[List.append_assoc,List.cons_append,List.nil_append]
      rw[<-h1,List.set_append_right _ _ (Nat.le_refl _)]
      simp) (by simp[h1];omega) (by simpa using ag)
     simpa using this
  have bC:=ach v.cells.toList 0 (pre++rest).toArray pre (rest.take sz) (rest.drop sz) (by simp[List.append_assoc]) (by simpa using hp) (by simp[cN];omega)
  have cS:(v.cells.zipIdx.foldl (λcs (x:Value×Nat)=>cs.setIfInBounds (k*sz+x.2) x.1) (pre++rest).toArray)=(pre++v.cells.toList++rest.drop sz).toArray:=by
   rw[<-Array.foldl_toList,Array.toList_zipIdx]
   exact bC
  have cc:=R2 P sz vs (k+1) (pre++v.cells.toList) (rest.drop sz) (by simp[hp,cN,Nat.add_mul]) (by simp[hlen]) (λu hu=>h u (by simp[hu]))
  rw[cS]
  simp only[List.flatMap_cons]
  rw[<-List.append_assoc]
  exact cc
theorem gF.buildSlice{t e:TypeId}{len sz by_:Nat}{g:Bool}{z:List Value}{hs:Array (Nat×Operand)}(vs:List Value)(a8:P.underlying t=some (.slice e))(he:eu P e=some (g,sz,by_,z))
 (hp:(hs.toList.map λp=>(aP E p.2).map (p.1,·))=(vs.zipIdx.map λp=>(p.2,p.1)).map some) (hlen:vs.length=len) (dM:(vs.all λv=>v.cells.size==sz)=true) (arU:len*sz<=16777216)
 (eC:∀an b,Ext w an->b=w.heap.size->an.heap.size=w.heap.size+1->du an b (vs.flatMap λv=>v.cells.toList) e->K (.slice (some ⟨b,0,none⟩) len len) an) :
 gF P ⟨d,.buildSlice t len hs,ty,pos,af,gd⟩ E w K:=λa ax=>by
 have h1:(hs.map λ(i,x)=>(i,a.eval x))=(vs.zipIdx.map λp=>(p.2,p.1)).toArray:=by
  apply Array.ext'
  rw[Array.toList_map]
  have aux:∀(l:List (Nat×Operand)) (r:List (Nat×Value)),(l.map λp=>(aP E p.2).map (p.1,·))=r.map some->l.map (λx=>(x.1,a.eval x.2))=r:=by
   intro l
   induction l with
   | nil=>intro r h;cases r<;>simp_all
   | cons p l cc =>
    intro r h
    cases r with
    | nil=>simp at h
    | cons q r =>
     simp only[List.map_cons,List.cons.injEq] at h ⊢
     refine⟨?_,cc r h.2⟩
     cases cN:aP E p.2 with
     | none=>simp[cN] at h
     | some u =>
      simp only[cN,Option.map_some,Option.some.injEq] at h
      rw[ax.aP cN];exact h.1
  exact aux _ _ hp
 obtain⟨jZ,cS,a'⟩:=RU he w
 have fY:∀v∈vs,v.cells.size=sz:=λv cN=>by have:=List.all_eq_true.1 dM v cN;simpa using this
 have nH:¬ (16777216<len*sz):=by omega
 have h:=eC (w.alloc (.cells (vs.flatMap λv=>v.cells.toList).toArray e)) w.heap.size (Mod.alloc _ _ _) rfl di (by
  show(w.heap.push _)[w.heap.size]?=_
  simp)
 have key:∀nI:Array Value,nI.size=len*sz->Instr.fill (λi=>some (i*sz,sz)) nI (vs.zipIdx.map λp=>(p.2,p.1))=some (vs.flatMap λv=>v.cells.toList).toArray:=λnI v8=>by
  have:=R2 P sz vs 0 [] nI.toList di (by simp[v8,hlen]) fY
  simpa using this
 by_cases bH:len*sz=0
 . have hk:=key (Array.map (λ_=>default) (Array.range 0)) (by simpa using bH.symm)
   simp[execOp,h1,Instr.buildSlice,run_underlying a8,run_sizeOf he,bH,out,newRow,hk]
   exact h
 . have hk:=key ((Array.range (len*sz)).map (jZ.cells[· % jZ.cells.size]!)) di
   simp[execOp,h1,Instr.buildSlice,run_underlying a8,run_sizeOf he,bH,nH,a',out,newRow,hk]
   exact h
end
def ca(g:Nat):Nat->Prop:=λb=>b+1=g
def dr(c5 ar:Nat):Nat->Prop:=λb=>c5<=b/\b<ar
theorem Mod.ga{g:Nat}{w an:World}(h:Ext w an):Mod (ca g) w an:=Ext.mod h _
theorem Mod.Ej{w an:World}(h:Mod (ca 0) w an):Ext w an:=h.weaken (λi ar _=>by simp[ca] at ar)
theorem Ext.hh{g:Nat}{w0 w an:World}(h:Ext w0 w)(k:Mod (ca g) w an)(aU:g=0\/w0.heap.size<g):Ext w0 an:=
 h.then k (λi ar bk=>by unfold ca at ar;omega)
theorem Mod.hh{g g0:Nat}{w0 w an:World}(h:Mod (ca g0) w0 w)(k:Mod (ca g) w an)(aU:g=0\/w0.heap.size<g\/g=g0):Mod (ca g0) w0 an:=
 h.then k (λi ar bk=>by unfold ca at *;omega)
theorem aq.cw{α:Type}{enc:α->List Value}{w:World}{c5 ar Ao uY:Nat}{v:Value}{l:List α}(h:aq enc w (dr c5 ar) v l)(h1:Ao<=c5)(ag:ar<=uY):aq enc w (dr Ao uY) v l:=
 h.mono λb ab=>by unfold dr at *;omega
theorem aq.bD{α:Type}{enc:α->List Value}{w an:World}{c5 ar g:Nat}{v:Value}{l:List α}(h:aq enc w (dr c5 ar) v l)(hm:Mod (ca g) w an)(aU:g<=c5\/ar<g):aq enc an (dr c5 ar) v l:=
 h.keep hm λb ab ah=>by unfold dr ca at *;omega
theorem Row.bD{w an:World}{b off g:Nat}{cs:List Value}(h:Row w b off cs)(hm:Mod (ca g) w an)(aU:b+1≠g):Row an b off cs:=h.keep hm aU
theorem du.bD{w an:World}{b g:Nat}{cs:List Value}{e:TypeId}(h:du w b cs e)(hm:Mod (ca g) w an)(aU:b+1≠g):du an b cs e:=h.keep hm aU
section
variable {α:Type}
def Acc(enc:α->List Value)(e:TypeId)(sz:Nat)(w:World)(g:Nat)(v:Value)(l:List α):Prop:=
 (v=.slice none 0 0/\l=[]/\g=0) \/
 ∃b cap cur,g=b+1/\v=.slice (some ⟨b,0,none⟩) l.length cap/\w.heap[b]?=some (.cells cur e (0,0))/\l.length<=cap/\cap<=maxLen/\cur.size=cap*sz/\cur.toList.take (l.length*sz)=l.flatMap enc
variable {enc:α->List Value} {e:TypeId} {sz:Nat} {w:World} {g:Nat} {v:Value} {l:List α}
theorem Acc.nil:Acc enc e sz w 0 (.slice none 0 0) []:=.inl ⟨rfl,rfl,rfl⟩
theorem Acc.keep{M:Nat->Prop}{an:World}(h:Acc enc e sz w g v l)(hm:Mod M w an)(aU:∀b,g=b+1->¬ M b):Acc enc e sz an g v l:=by
 rcases h with h|⟨b,cap,cur,bH,h1,ag,aB⟩
 . exact .inl h
 . exact .inr ⟨b,cap,cur,bH,h1,hm.keep _ _ ag (aU b bH),aB⟩
theorem Acc.ext{an:World}(h:Acc enc e sz w g v l)(hm:Ext w an):Acc enc e sz an g v l:=h.keep hm (λ_ _ x=>x)
theorem Acc.bD{fy:Nat}{an:World}(h:Acc enc e sz w g v l)(hm:Mod (ca fy) w an)(aU:g≠fy\/g=0):Acc enc e sz an g v l:=
 h.keep hm λb ab ah=>by unfold ca at ah;omega
theorem Acc.lt(h:Acc enc e sz w g v l):g<=w.heap.size:=by
 rcases h with ⟨_,_,h⟩|⟨b,cap,cur,bH,_,ag,_⟩
 . omega
 . have:=(Array.getElem?_eq_some_iff.1 ag).1;omega
theorem Acc.le(h:Acc enc e sz w g v l):l.length<=9223372036854775807:=by
 rcases h with ⟨_,h,_⟩|⟨b,cap,cur,_,_,_,aB,bE,_⟩
 . simp[h]
 . exact Nat.le_trans aB bE
theorem Acc.b9(h:Acc enc e sz w g v l):aq enc w (dr (g-1) g) v l:=by
 rcases h with ⟨h,gO,_⟩|⟨b,cap,cur,bH,h1,ag,aB,bE,c3,eX⟩
 . subst gO;exact h▸aq.nil
 . refine⟨_,cap,h1,aB,bE,.inr ⟨b,0,rfl,by unfold dr;omega,λi u hu=>?_⟩⟩;rw[<-eX,List.getElem?_take] at hu;split at hu
   . rw[cell_of_row w b (0+i) cur e (0,0) ag];simpa using hu
   . cases hu
theorem Acc.fresh{B:Nat}(h:Acc enc e sz w g v l)(aU:g=0\/B<g):aq enc w (dr B w.heap.size) v l:=by
 have bk:=h.lt;rcases aU with bH|bH
 . rcases h with ⟨h,gO,_⟩|⟨b,_,_,h1,_⟩
   . subst gO;exact h▸aq.nil
   . omega
 . exact h.b9.cw aa bk
theorem Acc.append{P:Program}(h:Acc enc e sz w g v l){t ty:TypeId}{fU:Bool}{by_:Nat}{z:List Value}(a8:P.underlying t=some (.slice e))(he:eu P e=some (fU,sz,by_,z))(cS:z.length=sz)
 (dM:∀x,(enc x).length=sz) (h1:∀x,(enc x).all (·.oneCell')=true) {F:Nat->Prop} {v2:Value} {dR:List α} (aT:aq enc w F v2 dR) (xq:(l.length+dR.length)*by_<=140737488355328) (tV:l.length+dR.length<=maxLen) :
 ∃gS fy an,(Builtin.append_ #[t,t] ty #[v,v2]).run P w=.ok gS an/\Acc enc e sz an fy gS (l++dR)/\Mod (ca g) w an/\(fy=g\/w.heap.size<fy):=by
 obtain⟨i,jJ,jZ,rM,i2,i3,i4,i5,Ek,R3⟩:=Cb he
 have Hs:∀u∈dR.flatMap enc,u.oneCell'=true:=λu hu=>by
  obtain⟨x,_,ah⟩:=List.mem_flatMap.1 hu
  exact List.all_eq_true.1 (h1 x) u ah
 have dp:(dR.flatMap enc).length=dR.length*i.size:=(by rw[rI dM,i4]);have mv:(l.flatMap enc).length=l.length*i.size:=(by rw[rI dM,i4]);have v8:jZ.cells.size=sz:=(by rw[<-Array.length_toList,Ek,cS]);have R4:l.length+dR.length<=9223372036854775807:=tV;-- aci acj cells
 obtain⟨a2,Ap,rfl,El,aA,aT⟩:=aT;by_cases tW:dR=[]
 . -- nothing is acj
   subst tW;refine⟨v,g,w,?_,by simpa using h,Mod.refl _ _,.inl rfl⟩
   have R5:(Builtin.firstCells i.size 0 (.slice a2 0 Ap)).run P w=.ok #[] w:=by
    cases a2<;>simp[Builtin.firstCells,loadCells,loadCellsFrom]
   rcases h with ⟨rfl,rfl,_⟩|⟨b,cap,cur,_,rfl,aU,uZ,_⟩
   . simp[Builtin.append_,run_underlying a8,sizeOf,typeInfo,rM,Builtin.lenOf,R5]
   . simp[Builtin.append_,run_underlying a8,sizeOf,typeInfo,rM,Builtin.lenOf,uZ,R5,storeCells]
 . obtain⟨aR,pv,rfl,br,cI⟩:∃aR pv,a2=some (⟨aR,pv,none⟩:Addr)/\F aR/\Row w aR pv (dR.flatMap enc):=by
    rcases aT with h|⟨aR,pv,h1,ag,aB⟩
    . exact absurd h tW
    . exact⟨aR,pv,h1,ag,aB⟩
   have Em:∀j u,(dR.flatMap enc)[j]?=some u->w.cell? ((⟨aR,pv,none⟩:Addr).add j)=some u:=λj u hu=>by
    rw[add_lit];exact cI.cell j u hu
   have fresh:∀(oa:Nat),oa<l.length+dR.length->∀aZ:World,aZ=w.drew.alloc (.cells ((l.flatMap enc).toArray++(dR.flatMap enc).toArray++Builtin.zeroCells jZ.cells (grownCap w (l.length+dR.length) oa e-(l.length+dR.length))) e) ->
    Acc enc e sz aZ (w.heap.size+1) (.slice (some ⟨w.heap.size,0,none⟩) (l.length+dR.length) (grownCap w (l.length+dR.length) oa e)) (l++dR)/\Mod (ca g) w aZ:=by
    intro oa ee aZ ey
    subst ey
    have yF:=grownCap_ge w (l.length+dR.length) oa e
    have s7:grownCap w (l.length+dR.length) oa e<=maxLen:=grownCap_le_maxLen w (l.length+dR.length) oa e tV
    refine⟨.inr ⟨_,_,_,rfl,by rw[List.length_append],heap_alloc_new w.drew _,by rw[List.length_append];exact yF,s7,?_,?_⟩,?_⟩
    . simp only[Array.size_append,List.size_toArray,size_zeroCells,v8,mv,dp,i4,<-Nat.add_mul]
      congr 1
      omega
    . simp only[Array.toList_append,List.flatMap_append]
      have fV:(l++dR).length*sz=((l.flatMap enc)++(dR.flatMap enc)).length:=by rw[List.length_append,List.length_append,mv,dp,i4,Nat.add_mul]
      rw[fV]
      exact List.take_left
    . exact(Mod.drew _ w).trans (Mod.alloc _ _ _)
   rcases h with ⟨rfl,rfl,rfl⟩|⟨b,cap,cur,rfl,rfl,aU,uZ,s7,j1,R6⟩
   . by_cases bH:dR.length=0
     . have:dR=[]:=List.eq_nil_of_length_eq_zero bH
       subst this;refine⟨.slice none 0 0,0,w,?_,Acc.nil,Mod.refl _ _,.inl rfl⟩;simp[Builtin.append_,run_underlying a8,sizeOf,typeInfo,rM,Builtin.lenOf,Builtin.firstCells,loadCells,loadCellsFrom]
     . have tX:dR.length*i.bytes<=281474976710656:=by
        have ab:=xq;simp only[List.length_nil,Nat.zero_add] at ab;rw[i5];omega
       have a':=run_append_nil (P:=P) w t ty e i jZ a8 rM i3 ⟨aR,pv,none⟩ dR.length Ap (dR.flatMap enc) dp Em aa (by have:=R4;simp only[List.length_nil,Nat.zero_add] at this;omega) tX;have bC:=fresh 0 (by simp;omega) _ rfl;simp only[List.length_nil,Nat.zero_add,List.flatMap_nil,List.nil_append,Array.empty_append] at bC;exact⟨_,_,_,a',bC.1,bC.2,.inr (Nat.lt_succ_self _)⟩
   . by_cases Ce:l.length+dR.length<=cap
     . have ack:l.length*i.size+(dR.flatMap enc).length<=cur.size:=(by rw[dp,j1,i4,<-Nat.add_mul];exact Nat.mul_le_mul_right _ Ce);have a':=run_append_room (P:=P) w t ty e i a8 rM b l.length cap cur aU ⟨aR,pv,none⟩ dR.length Ap (dR.flatMap enc) dp Em Hs Ce ack;refine⟨_,b+1,_,a',.inr ⟨b,cap,_,rfl,by rw[List.length_append],setRow_heap w b cur _ e _ aU,by rw[List.length_append];exact Ce,s7,?_,?_⟩,(Hr _ _ _).weaken (λi ar _=>by unfold ca;omega),.inl rfl⟩
       . simp only[List.size_toArray,List.length_append,List.length_take,List.length_drop,Array.length_toList];omega
       . rw[i4,R6,List.flatMap_append];have fV:(l++dR).length*sz=((l.flatMap enc)++(dR.flatMap enc)).length:=(by rw[List.length_append,List.length_append,mv,dp,i4,Nat.add_mul]);rw[fV];exact List.take_left
     . have holds:∀j u,(l.flatMap enc)[j]?=some u->w.cell? ((⟨b,0,none⟩:Addr).add j)=some u:=λj u hu=>by
        rw[add_lit,cell_of_row w b (0+j) cur e (0,0) aU]
        rw[<-R6,List.getElem?_take] at hu
        split at hu
        . simpa using hu
        . cases hu
       have a':=run_append_grow (P:=P) w t ty e i jZ a8 rM i3 ⟨b,0,none⟩ l.length cap (l.flatMap enc) mv holds ⟨aR,pv,none⟩ dR.length Ap (dR.flatMap enc) dp Em aa aa (by rw[i5];exact growslice_fits aa xq);have bC:=fresh cap aa _ rfl;exact⟨_,_,_,a',bC.1,bC.2,.inr (Nat.lt_succ_self _)⟩
theorem gF.append{P:Program}{E:Env}{d:Option Tmp}{ty:TypeId}{pos:String}{af:Array Edge}{gd:Option (Nat×Bool)}{K:Value->World->Prop}{t:TypeId}{x y:Operand}{fU:Bool}{by_:Nat}{z:List Value}{F:Nat->Prop}{v2:Value}{dR:List α}
 (h:Acc enc e sz w g v l) (a8:P.underlying t=some (.slice e)) (he:eu P e=some (fU,sz,by_,z)) (cS:z.length=sz)
 (dM:∀x,(enc x).length=sz) (h1:∀x,(enc x).all (·.oneCell')=true) (ah:aP E x=some v) (aD:aP E y=some v2) (aT:aq enc w F v2 dR) (xq:(l.length+dR.length)*by_<=140737488355328) (tV:l.length+dR.length<=maxLen)
 (eC:∀gS fy an,Acc enc e sz an fy gS (l++dR)->Mod (ca g) w an->(fy=g\/w.heap.size<fy)->w.heap.size<=an.heap.size->K gS an) :
 gF P ⟨d,.call { callee:=.builtin .append,args:=#[x,y],argTypes:=#[t,t] },ty,pos,af,gd⟩ E w K:=λa ax=>by
 obtain⟨gS,fy,an,a',ag,aB,bE⟩:=h.append (ty:=ty) a8 he cS dM h1 aT xq tV
 simp only[execOp,resolve,invoke,builtin,Sem.run_bind,Sem.run_pure,Result.andThen_ok,List.map_toArray,List.map_cons,List.map_nil,ax.aP ah,ax.aP aD,a',out]
 exact eC _ _ _ ag aB bE aB.size
end
theorem aq.eD{α:Type}{enc:α->List Value}{w:World}{b:Nat}{e:TypeId}{cs:List Value}(h:du w b cs e)(l:List α)(n:Nat)(al:cs=l.flatMap enc)(aN:l.length=n)(hm:n<=maxLen):aq enc w (dr b (b+1)) (.slice (some ⟨b,0,none⟩) n n) l:=by
 subst aN;exact⟨_,l.length,rfl,Nat.le_refl _,hm,.inr ⟨b,0,rfl,by unfold dr;omega,by rw[<-al];exact h.row⟩⟩
theorem Acc.eD{α:Type}{enc:α->List Value}{w:World}{b:Nat}{e:TypeId}{sz:Nat}{cs:List Value}(h:du w b cs e)(l:List α)(n:Nat)(al:cs=l.flatMap enc)(dM:∀x,(enc x).length=sz)(aN:l.length=n)(hm:n<=maxLen):Acc enc e sz w (b+1) (.slice (some ⟨b,0,none⟩) n n) l:=by
 subst aN;have bk:=rI dM l;refine .inr ⟨b,l.length,cs.toArray,rfl,rfl,h,Nat.le_refl _,hm,by rw[al];simpa using bk,?_⟩;rw[al,<-bk];exact List.take_length
def dec(s:aj):Nat×Nat:=Utf8.decode ⟨s.toArray⟩ 0
theorem R7(s:aj)(n:Nat):Utf8.decode ⟨s.toArray⟩ n=dec (s.drop n):=by
 have h:=Lib.tail_decode ⟨s.toArray⟩ n 0
 have e:(⟨s.toArray⟩:ByteArray).extract n (⟨s.toArray⟩:ByteArray).size=⟨(s.drop n).toArray⟩:=by
  rw[LH]
  have:(⟨s.toArray⟩:ByteArray).size=s.length:=by simp[ByteArray.size]
  rw[this,List.take_length]
 rw[e] at h;simpa[dec] using h.symm
theorem yG(s:aj)(h:s≠[]):1<=(dec s).2:=by
 refine Lib.decode_width_pos _ _ ?_
 cases s with
 | nil=>exact absurd rfl h
 | cons a s=>simp[ByteArray.size]
theorem Cf(s:aj)(h:s≠[]):(dec s).2<=s.length:=by
 have dM:(⟨s.toArray⟩:ByteArray).size=s.length:=by simp[ByteArray.size]
 cases s with
 | nil=>exact absurd rfl h
 | cons a s =>
  unfold dec Utf8.decode;simp only[dM,List.length_cons];repeat' split
  all_goals simp_all
  all_goals omega
theorem R8(s:aj):(dec s).1<=1114111:=by
 unfold dec Utf8.decode Utf8.runeError;simp only;repeat' split
 all_goals simp_all[Utf8.valid]
 all_goals omega
def sq(w:World)(b:Nat)(s:aj)(pos:Nat):Prop:=w.heap[b]?=some (.stringIter ⟨s.toArray⟩ pos)
theorem sq.bD{w an:World}{b g:Nat}{s:aj}{pos:Nat}(h:sq w b s pos)(hm:Mod (ca g) w an)(aU:b+1≠g):sq an b s pos:=hm.keep _ _ h aU
theorem sq.ext{w an:World}{b:Nat}{s:aj}{pos:Nat}(h:sq w b s pos)(hm:Ext w an):sq an b s pos:=hm.keep _ _ h (λx=>x)
theorem sq.lt{w:World}{b:Nat}{s:aj}{pos:Nat}(h:sq w b s pos):b<w.heap.size:=(Array.getElem?_eq_some_iff.1 h).1
section
variable {P:Program} {E:Env} {d:Option Tmp} {ty:TypeId} {pos:String} {af:Array Edge} {gd:Option (Nat×Bool)} {w:World} {K:Value->World->Prop}
theorem gF.LK{t:TypeId}{x:Operand}{s:aj}(a8:P.underlying t=some .string)(ah:aP E x=some (aE s))
 (eC:∀an b,Ext w an->b=w.heap.size->an.heap.size=w.heap.size+1->sq an b s 0->K (ptr b 0) an):gF P ⟨d,.range t x,ty,pos,af,gd⟩ E w K:=λa ax=>by
 have h:=eC (w.alloc (.stringIter ⟨s.toArray⟩ 0)) w.heap.size (Mod.alloc _ _ _) rfl di (by
  show(w.heap.push _)[w.heap.size]?=_
  simp)
 simp[execOp,ax.aP ah,Instr.range,aE,run_underlying a8,out]
 exact h
theorem gF.iD{x:Operand}{s:aj}{b i:Nat}(ah:aP E x=some (ptr b 0))(ar:sq w b s i)(acm:s.drop i=[]->K (.tuple #[.bool false]) w)
 (eC:∀an,s.drop i≠[]->Mod (ca (b+1)) w an->an.heap.size=w.heap.size->sq an b s (i+(dec (s.drop i)).2)->K (.tuple #[.bool true,.int .i64 i,.int .i32 ((dec (s.drop i)).1:Int)]) an) :
 gF P ⟨d,.next x true,ty,pos,af,gd⟩ E w K:=λa ax=>by
 have aB:(⟨s.toArray⟩:ByteArray).size=s.length:=by simp[ByteArray.size]
 by_cases bk:i<s.length
 . have dL:s.drop i≠[]:=λe=>by have:=congrArg List.length e;simp at this;omega
   have h:=eC { w with heap:=w.heap.setIfInBounds b (.stringIter ⟨s.toArray⟩ (i+(dec (s.drop i)).2)) } dL
    ⟨rfl,rfl,rfl,by simp,λk o hk aN=>by
     have:b≠k:=λe=>aN (by unfold ca;omega)
     show(w.heap.setIfInBounds b _)[k]?=_
     rw[Array.getElem?_setIfInBounds_ne this];exact hk⟩ di (by
     show(w.heap.setIfInBounds b _)[b]?=_
     have ab:=ar.lt
     simp[ab])
   have aU:w.heap[b]?=some (.stringIter ⟨s.toArray⟩ i):=ar
   simp[execOp,ax.aP ah,ptr,Instr.next,getObj,setObj,Sem.run,aU,aB,bk,R7,goInt,out]
   exact h
 . have he:s.drop i=[]:=List.drop_of_length_le aa
   have aU:w.heap[b]?=some (.stringIter ⟨s.toArray⟩ i):=ar
   simp[execOp,ax.aP ah,ptr,Instr.next,getObj,Sem.run,aU,aB,bk,out]
   exact acm he
end
end Go.aF
namespace Go.aF
open Go
section
variable {P:Program} {f:FuncId} {R:Ending->World->Prop} {n:Nat}
def En:Nat->List Value->Env
 | _,[]=>[]
 | i,v::r=>(i,v)::En (i+1) r
theorem R9:∀(vs:List Value) (j i:Nat) (v:Value),mJ i (En j vs)=some v->j<=i/\vs[i-j]?=some v
 | [],_,_,_,h=>by simp[En,mJ] at h
 | u::r,j,i,v,h=>by
  simp only[En,mJ] at h
  cases ab:Nat.beq i j with
  | true =>
   have:=Nat.eq_of_beq_eq_true ab
   simp only[ab,Option.some.injEq] at h
   subst this
   simp[h]
  | false =>
   simp only[ab] at h
   obtain⟨h1,ag⟩:=R9 r (j+1) i v h
   refine⟨by omega,?_⟩
   have:i-j=(i-(j+1))+1:=by omega
   rw[this]
   simpa using ag
theorem bQ{fn:Func}{c:Code}{vs:List Value}{w:World}(bC:P.funcs[f]?=some fn)(ab:fn.body=some c)(aN:fn.ntmps=n)(hle:Nat.ble vs.length n=true)
 (h:hx P f R n (En 0 vs) [.code c] w):Calls P f vs.toArray w R:=
 abE bC ab (h _ ⟨by have:=Nat.le_of_ble_eq_true hle;simp[aN];omega,rfl,λi v cN=>by
  obtain⟨_,ag⟩:=R9 vs 0 i v cN
  simp only[Nat.sub_zero] at ag
  have hN:=(List.getElem?_eq_some_iff.1 ag).1
  simp only[Array.getD_eq_getD_getElem?]
  rw[Array.getElem?_append_left (by simpa using hN)]
  simp[ag]⟩)
theorem fN.dd{ops:Array Oper}{o:Oper}{l:List Oper}{E:Env}{k:List Item}{w:World}{nc:Bool}(dB:bz P o E (λan=>an=w) (.bool nc))
 (hw:want n ops E o.guard=some true) (hd:kj n o.dst=true) (h:∀b:Bool,b=nc->fN P f R n ops l (pu o.dst (.bool b) E) k w):fN P f R n ops (o::l) E k w:=
 fN.q dB hw hd (h nc rfl)
theorem hQ.dd{C:World->Prop}{A:Nat->Bool}{Z:Nat}{ops:Array Oper}{o:Oper}{i:Nat}{l:List Nat}{E:Env}{k:List Item}{w:World}{nc:Bool}(ee:ops[i]?=some o)(bg:A i=false)(dB:bz P o E C (.bool nc))
 (hw:want n ops E o.guard=some true) (hd:kj n o.dst=true) (h:∀b:Bool,b=nc->hQ P f R n C A Z ops l (pu o.dst (.bool b) E) k w):hQ P f R n C A Z ops (i::l) E k w:=
 hQ.q ee bg dB hw hd (h nc rfl)
theorem eR(A:Nat->Bool)(Z:Nat)(C:World->Prop){id:Nat}{ops:Array Oper}{E:Env}{k:List Item}{w:World}(hm:P.follows .mixedOrders=true){l:List Nat}
 (h:∀ai,Ext w ai->C ai/\hQ P f R n C A Z ops l E k ai) (ft:B9 ops A Z=true:=by kernel_rfl) (bk:List.range' 0 ops.size=l:=by exact rfl):hx P f R n E (.code (.region id ops true)::k) w:=
 ab6 A Z C hm ft (bk▸h w.drew (Mod.drew _ _))
end
section
variable {P:Program} {E:Env} {d:Option Tmp} {ty:TypeId} {pos:String} {af:Array Edge} {gd:Option (Nat×Bool)} {w:World} {K:Value->World->Prop}
theorem gF.aH{g:FuncId}{xs:List Operand}{mu:Array TypeId}{vs:List Value}{rL:Value->World->Prop}(aU:b7 P g=true)
 (ah:qY E xs=some vs) (h:Calls P g vs.toArray w (ao rL)) (eC:∀v an,rL v an->K v an) :
 gF P ⟨d,.call { callee:=.value (.func g),args:=xs.toArray,argTypes:=mu },ty,pos,af,gd⟩ E w K:=
 gF.call (first:=[]) (cap:=[]) aU rfl ah (by simpa using h) eC
theorem gF.acn {g : FuncId} {fn : Func} {e : Array Value → Sem Value} {xs : List Operand} {mu : Array TypeId} {vs : List Value} {v : Value} (bC : P.funcs[g]? = some fn) (aco : (fn.name == "runtime.NumGoroutine") = false)
 (ab:fn.body.isNone=true) (aN:Extern.findNext fn=none) (he:Extern.find fn=some e) (ah:qY E xs=some vs) (a':(e vs.toArray).run P w=.ok v w) (eC:K v w) :
 gF P ⟨d,.call { callee:=.value (.func g),args:=xs.toArray,argTypes:=mu },ty,pos,af,gd⟩ E w K:=λa ax=>by
 have Ei:xs.toArray.map a.eval=vs.toArray:=by
  apply Array.ext'
  simpa using ax.qY ah
 have:(execOp a.eval ⟨d,.call { callee:=.value (.func g),args:=xs.toArray,argTypes:=mu },ty,pos,af,gd⟩).run P w=.ok (.value v) w:=by
  have acp:a.eval (.func g)=.func (.func g) #[] #[]:=rfl
  simp only[execOp,resolve,acp,Ei,Deferred.ofValue,Sem.run_bind,Sem.run_pure,Result.andThen_ok,invoke,Array.append_empty,Array.empty_append]
  rw[run_callFunc_extern bC aco ab aN he,a']
  rfl
 rw[this]
 exact eC
end
theorem aq.fO{α:Type}{enc:α->List Value}{w:World}{c5 up:Nat}{v:Value}{l:List α}(h:aq enc w (dr c5 up) v l){P:Program}{t e:TypeId}{sz by_:Nat}{g:Bool}{z:List Value}(a8:P.underlying t=some (.slice e))(he:eu P e=some (g,sz,by_,z))(dM:∀x,(enc x).length=sz){k:IntKind}{n:Int}(i:Nat)(aN:n=(i:Int))(ar:i<l.length):
 ∃x b off,l[i]?=some x/\(∀w,(Instr.indexAt t v (.int k n)).run P w=.ok (ptr b off) w)/\c5<=b/\b<up/\Row w b off (enc x):=by
 obtain⟨b,off,h1,ag,aB⟩:=h.at a8 he dM (k:=k) i aN ar;exact⟨l[i],b,off,by simp,h1,ag.1,ag.2,aB⟩
theorem aq.cast{α:Type}{enc:α->List Value}{w:World}{F:Nat->Prop}{v:Value}{l j2:List α}(h:aq enc w F v l)(e:l=j2):aq enc w F v j2:=e▸h
def encI(n:Int):List Value:=[.int .i64 n]
def en(b:UInt8):List Value:=[.int .u8 (b.toNat:Int)]
def iM(n:Int):List Value:=[.int .i32 n]
def cz(s:aj):List Value:=[aE s]
theorem fz(x:Int):(encI x).length=1:=rfl
theorem nd(x:UInt8):(en x).length=1:=rfl
theorem oE(x:Int):(iM x).length=1:=rfl
theorem ic(x:aj):(cz x).length=1:=rfl
theorem xr(x:Int):(encI x).all (·.oneCell')=true:=rfl
theorem Cg(x:UInt8):(en x).all (·.oneCell')=true:=rfl
theorem Eo(x:Int):(iM x).all (·.oneCell')=true:=rfl
theorem yH(x:aj):(cz x).all (·.oneCell')=true:=rfl
abbrev bY(n:Int):Prop:=-9223372036854775808<=n/\n<=9223372036854775807
theorem ao.mk{rL:Value->World->Prop}{v:Value}{w:World}(h:rL v w):ao rL (.returned v) w:=⟨v,rfl,h⟩
section
variable {P:Program} {f:FuncId} {rL:Value->World->Prop} {n:Nat} {E:Env} {k:List Item} {w:World} {fn:Func} {t u:Tmp} {v x:Value}
theorem nJ(bC:P.funcs[f]?=some fn)(fo:rL v w)(oC:fn.results=#[.tmp t]:=by exact rfl)(cN:mJ t E=some v:=by exact rfl):hx P f (ao rL) n E (.code .ret::k) w:=aM bC oC cN (ao.mk fo)
theorem Aq(bC:P.funcs[f]?=some fn)(fo:rL (.tuple #[v,x]) w)(oC:fn.results=#[.tmp t,.tmp u]:=by exact rfl)(cN:mJ t E=some v:=by exact rfl)(ah:mJ u E=some x:=by exact rfl):hx P f (ao rL) n E (.code .ret::k) w:=cO bC oC cN ah (ao.mk fo)
end
theorem Ht{α:Type}[BEq α][LawfulBEq α]{a b:α}(h:true=!(a==b)):a≠b:=λe=>by subst e;simp at h
theorem Hu{α:Type}[BEq α][LawfulBEq α]{a b:α}(h:false=!(a==b)):a=b:=by
 cases ab:a==b with
 | true=>exact eq_of_beq ab
 | false=>rw[ab] at h;cases h
end Go.aF
namespace Go.aF
open Go Go.WideShapes Go.ChangeShapes Go.RowKit
section
variable {H:Type} {enc:TypeId×Value->H} {P:Program} {W:World}
def yI(P:Program)(t:TypeId){α:Type}(xu:α->List Value)(ok:α->Prop):Prop:=
 ∀{H:Type} {enc:TypeId×Value->H} {W:World} {base:Nat} {spare:Nat->Bool} {held:Bool} (fuel:Nat) (cs:List Value) (x:DataW H×List MemPlace),DataW.trod enc P W base spare held fuel t cs=some x->∃a:α,cs=xu a/\ok a
theorem wf_i64{n:Int}(h:(Lit.int .i64 n).wf=true):bY n:=by
 simp[Lit.wf,IntKind.min,IntKind.max,IntKind.signed,IntKind.bits] at h;unfold bY;omega
theorem nK{t:TypeId}(h:P.underlying t=some (.int .i64)):yI P t encI bY:=λfuel cs x a8=>by
 obtain⟨n,rfl,_,hw⟩:=DataW.trod_int h a8
 exact⟨n,rfl,wf_i64 hw⟩
theorem Hv{t:TypeId}(h:P.underlying t=some .string):yI P t cz (λs=>s.length<=9223372036854775807):=λfuel cs x a8=>by
 obtain⟨s,rfl,_,hw⟩:=DataW.trod_string h a8
 exact⟨s.data.toList,by rw[cz,<-ab7],hw⟩
def LL(b:Bool):List Value:=[.bool b]
theorem acq{t:TypeId}(h:P.underlying t=some .bool):yI P t LL (λ_=>True):=λfuel cs x a8=>by
 obtain⟨b,rfl,_⟩:=DataW.trod_bool h a8
 exact⟨b,rfl,trivial⟩
theorem Ep{t:TypeId}{ly:Array Field}(hu:P.underlying t=some (.struct ly)){base:Nat}{spare:Nat->Bool}{held:Bool}{fuel:Nat}{cs:List Value}{x:DataW H×List MemPlace}(h:DataW.trod enc P W base spare held fuel t cs=some x):
 ∃n,cs.length=P.cellsOf t/\∀(i:Nat) (f:Field) (Hw off k:Nat),ly[i]?=some f->f.type=Hw->f.offset=off->P.cellsOf Hw=k->∃y,DataW.trod enc P W base spare held n Hw ((cs.drop off).take k)=some y:=by
 obtain⟨xs,n,_,ah,bk,hlen,bC⟩:=DataW.trod_struct hu h;refine⟨n,bk,λi f Hw off k ar fV je tY=>?_⟩;subst fV je tY;have hN:i<ly.size:=(Array.getElem?_eq_some_iff.1 ar).1;exact⟨xs[i]'aa,by rw[bC i f ar];simp⟩
theorem acr{base:Nat}{a:Addr}{n:Nat}{cs:List Value}(h:W.cells? base a n=some cs)(aN:0<n):∃b off,a=⟨b,off,none⟩/\b<W.heap.size/\cs.length=n/\Row W b off cs:=by
 obtain⟨_,hP,nf⟩:=World.cells?_some h;have bH:=nf 0 aN;have Er:cs[0]?=some (cs[0]'aa):=List.getElem?_eq_getElem aa;rw[Er] at bH;have j_:a.add 0=a:=(by unfold Addr.add;simp);rw[j_] at bH
 have acs:a.spot=none:=by
  unfold World.cell? at bH
  cases hF:W.heap[a.block]? with
  | none=>rw[hF] at bH;cases bH
  | some LA =>
   rw[hF] at bH
   cases LA<;>simp only[reduceCtorEq] at bH
   cases aT:a.spot with
   | none=>rfl
   | some _=>rw[aT] at bH;simp at bH
 obtain⟨b,off,sp⟩:=a;subst acs;refine⟨b,off,rfl,World.block_lt_of_cell? W _ bH,hP,λi v cN=>?_⟩;have ar:i<n:=(by rw[<-hP];exact(List.getElem?_eq_some_iff.1 cN).1);have:=nf i ar;rw[add_lit,cN] at this;exact this
theorem LM {t e : TypeId} {α : Type} {xu : α → List Value} {ok : α → Prop} (bC : yI P e xu ok) (a8 : P.underlying t = some (.slice e)) {sz : Nat} (hC : P.cellsOf e = sz) (bH : 0 < sz) (dM : ∀ x, (xu x).length = sz)
    {spare : Nat → Bool} {held : Bool} {fuel : Nat} {cs : List Value} {x : DataW H × List MemPlace} (h : DataW.trod enc P W 0 spare held fuel t cs = some x) :
    ∃ (v : Value) (l : List α), cs = [v] ∧ aq xu W (dr 0 W.heap.size) v l ∧ ∀ a ∈ l, ok a := by
  rcases Deep.open_slice a8 h with ⟨rfl, _⟩ | ⟨a, len, cap, m, n, D, arV, rfl, _, hle, tV, hm, _, ar⟩
  · exact ⟨_, [], rfl, aq.nil, by simp⟩
  · have acu : len ≤ m := by rw [hm]; split <;> omega
    have key : ∀ i : Nat, i < len → ∃ y : α, ok y ∧ ∃ b off, a.add (i * sz) = ⟨b, off, none⟩ ∧ b < W.heap.size ∧ Row W b off (xu y) := fun i ng => by
      obtain ⟨cs', al, acv⟩ := ar i aa
      rw [hC] at al
      obtain ⟨b, off, ax, ab, hP, a'⟩ := acr al bH
      obtain ⟨y, rfl, aD⟩ := bC _ _ _ acv
      exact ⟨y, aD, b, off, ax, ab, a'⟩
    by_cases tW : len = 0
    · subst tW;exact ⟨_, [], rfl, ⟨some a, cap, rfl, Nat.zero_le _, tV, .inl rfl⟩, by simp⟩
    · -- aci list
      have acw : ∃ l : List α, l.length = len ∧ ∀ i (ar : i < l.length), ok l[i] ∧ ∃ b off, a.add (i * sz) = ⟨b, off, none⟩ ∧ b < W.heap.size ∧ Row W b off (xu l[i]) := by
        have gen : ∀ n : Nat, n ≤ len → ∃ l : List α, l.length = n ∧ ∀ i (ar : i < l.length), ok l[i] ∧ ∃ b off, a.add (i * sz) = ⟨b, off, none⟩ ∧ b < W.heap.size ∧ Row W b off (xu l[i]) := by
         intro n aN
         induction n with
         | zero => exact ⟨[], rfl, fun i ar => by simp at ar⟩
         | succ k cc =>
          obtain ⟨l, bk, fY⟩ := cc aa
          obtain ⟨y, aD, a'⟩ := key k aa
          refine ⟨l ++ [y], by simp [bk], fun i ar => ?_⟩
          rcases Nat.lt_or_ge i l.length with gO | gO
          · rw [List.getElem_append_left gO]; exact fY i gO
          · have : i = l.length := by simp at ar; omega
            subst this
            rw [List.getElem_append_right (Nat.le_refl _)]
            simp only [Nat.sub_self, List.getElem_cons_zero, bk]
            exact ⟨aD, a'⟩
        exact gen len (Nat.le_refl _)
      obtain ⟨l, bk, fY⟩ := acw;obtain ⟨_, b, off, ax, ab, _⟩ := fY 0 aa;have acx : a = ⟨b, off, none⟩ :=(by rw [← ax]; unfold Addr.add; simp);subst acx;refine ⟨_, l, rfl, ⟨_, cap, by rw [bk], by omega, tV, .inr ⟨b, off, rfl, ⟨Nat.zero_le _, ab⟩, fun j v cN => ?_⟩⟩, fun y aD => ?_⟩
      · have tU := rI dM l;have bn : j < l.length * sz :=(by rw [← tU]; exact (List.getElem?_eq_some_iff.1 cN).1);have hdiv : j / sz < l.length := Nat.div_lt_of_lt_mul (by rw [Nat.mul_comm]; exact bn);obtain ⟨_, sr, R_, LN, yJ, LO⟩ := fY (j / sz) hdiv;rw [add_lit] at LN;simp only [Addr.mk.injEq, and_true] at LN;obtain ⟨rfl, rfl⟩ := LN;have Hx := (Hq dM l (j / sz) hdiv).1;have acy : j % sz < sz := Nat.mod_lt _ bH;have R' : j / sz * sz + j % sz = j := Nat.div_add_mod' j sz
        have acz : (xu l[j / sz])[j % sz]? = some v := by
          rw [← Hx, List.getElem?_take, if_pos acy, List.getElem?_drop, R']; exact cN
        have := LO (j % sz) v acz;rw [Nat.add_assoc, R'] at this;exact this
      · obtain ⟨i, uY, rfl⟩ := List.getElem_of_mem aD;exact (fY i uY).1
def Hy(P:Program)(mu:List TypeId):Bool:=mu.all λt=>P.readableRec t && decide (t<P.types.size)
theorem Sa(bk:laidOutB P=true){Ar:World}(As:Ext W Ar):∀(mu:List TypeId) (vs:List Value) (rK:List (DataW H)) (hs:List MemPlace),Hy P mu=true ->
 DataW.TrodAll enc P W 0 (λ_=>true) true mu vs rK hs->DataW.TrodAll enc P Ar 0 (λb=>decide (b<W.heap.size)) true mu vs rK hs
 | [],[],[],_,_,h=>h
 | t::mu,v::vs,d::rK,hs,a',h=>by
  obtain⟨p,q,h1,ag,aB⟩:=h
  simp only[Hy,List.all_cons,Bool.and_eq_true,decide_eq_true_eq] at a'
  have hN:∀x∈p,x.block<W.heap.size:=by
   obtain⟨fuel,bC⟩:=h1
   exact λx ah=>DataW.trod_lt _ _ _ _ bC x ah
  exact⟨p,q,Below.trod bk a'.1.1 a'.1.2 h1 As.below hN,Sa bk As mu vs rK q (by simpa[Hy] using a'.2) ag,aB⟩
 | [],_::_,_,_,_,h=>h.elim
 | [],[],_::_,_,_,h=>h.elim
 | _::_,[],_,_,_,h=>h.elim
 | _::_,_::_,[],_,_,h=>h.elim
theorem acA{f:Func}{s:ChangeSpec}{args:Array Value}{rK gs:List (DataW H)}{before:List MemPlace}{Ar:World}{tb:TypeId}(bk:laidOutB P=true)(a':Hy P f.params.toList=true)
 (oC:f.resultTypes=#[tb]) (ab:P.underlying tb=some .bool) (Sb:s.vars=[]) (ob:DataW.Whole enc P f.params.toList s.vars false W args.toList rK gs before) (As:Ext W Ar)
 (LP:s.fn H (rK++gs)={ results:=[.lit (.bool true)],args:=rK }):ChangeSpec.post enc P f s false true false false W args (.bool true) Ar:=by
 have LQ:=ob;obtain⟨p,q,bg,Au,rfl,Hz,gK⟩:=ob
 have dB:gs=[]/\q=[]:=by
  rw[Sb] at Au
  cases gs with
  | nil=>exact⟨rfl,Au⟩
  | cons _ _=>exact Au.elim
 obtain⟨rfl,rfl⟩:=dB;refine⟨rK,[],p++[],[],p,[],LQ,?_,?_,?_,As.below.frame _,λh=>by cases h⟩
 . rw[LP,oC];exact trodAll_cons_mk (shut_bool ab true) trodAll_mk0
 . rw[LP];exact Sa bk As _ _ _ _ a' bg
 . rw[Sb,LP];rfl
end
end Go.aF
namespace Go.ak
open Go.aF
def Ch:Nat->aj->List Nat
 | 0,_=>[]
 | n+1,s=>match s with
  | []=>[]
  | a::r=>(dec (a::r)).1::Ch n ((a::r).drop (dec (a::r)).2)
def hi(s:aj):List Nat:=Ch s.length s
theorem Sc:∀(n m:Nat) (s:aj),s.length<=n->s.length<=m->Ch n s=Ch m s
 | 0,0,_,_,_=>rfl
 | 0,m+1,s,h,_=>by
  have:s=[]:=List.eq_nil_of_length_eq_zero aa
  subst this;rfl
 | n+1,0,s,_,h=>by
  have:s=[]:=List.eq_nil_of_length_eq_zero aa
  subst this;rfl
 | n+1,m+1,[],_,_=>rfl
 | n+1,m+1,a::r,h1,ag=>by
  simp only[Ch]
  have hp:=yG (a::r) di
  rw[Sc n m _ (by simp only[List.length_drop,List.length_cons] at *;omega) (by simp only[List.length_drop,List.length_cons] at *;omega)]
theorem xv:hi []=[]:=rfl
theorem xw{s:aj}(h:s≠[]):hi s=(dec s).1::hi (s.drop (dec s).2):=by
 cases s with
 | nil=>exact absurd rfl h
 | cons a r =>
  have hp:=yG (a::r) di;show(dec (a::r)).1::Ch r.length ((a::r).drop (dec (a::r)).2)=_;rw[Sc r.length ((a::r).drop (dec (a::r)).2).length _ (by simp only[List.length_drop,List.length_cons];omega) (Nat.le_refl _)];rfl
theorem Sd(s:aj):(hi s).length<=s.length:=by
 have:∀n (s:aj),s.length<=n->(hi s).length<=s.length:=by
  intro n
  induction n with
  | zero=>intro s h;have:s=[]:=List.eq_nil_of_length_eq_zero aa;subst this;simp[xv]
  | succ n cc =>
   intro s h
   by_cases aT:s=[]
   . subst aT;simp[xv]
   . rw[xw aT]
     have hp:=yG s aT
     have bk:=Cf s aT
     have:=cc (s.drop (dec s).2) (by rw[List.length_drop];omega)
     rw[List.length_drop] at this
     rw[List.length_cons];omega
 exact this _ s (Nat.le_refl _)
structure Scan(s:aj)(p:Nat)(pre:List Nat):Prop where
 all:hi s=pre++hi (s.drop p)
 le:p<=s.length
 len:pre.length<=p
theorem Scan.start(s:aj):Scan s 0 []:=⟨by simp,Nat.zero_le _,by simp⟩
theorem Scan.next{s:aj}{p:Nat}{pre:List Nat}(h:Scan s p pre)(he:s.drop p≠[]):Scan s (p+(dec (s.drop p)).2) (pre++[(dec (s.drop p)).1]):=by
 have bk:=Cf _ he;have hp:=yG _ he;rw[List.length_drop] at bk;have:=h.le
 have hN:p<s.length:=by
  rcases Nat.lt_or_ge p s.length with h|h
  . exact h
  . exact absurd (List.drop_of_length_le h) he
 refine⟨?_,by omega,by have:=h.len;simp;omega⟩;rw[h.all,xw he,List.drop_drop];simp
theorem Scan.done{s:aj}{p:Nat}{pre:List Nat}(h:Scan s p pre)(he:s.drop p=[]):hi s=pre:=by
 rw[h.all,he,xv,List.append_nil]
theorem Scan.mem{s:aj}{p:Nat}{pre:List Nat}(h:Scan s p pre)(he:s.drop p≠[]):(dec (s.drop p)).1∈hi s:=by
 rw[h.all,xw he];simp
def iN(s:aj):Int:=if 65533∈hi s then -1 else((hi s).length:Int)
def word(s:aj):Bool:=decide (iN s>=1) && decide (iN s<=12)
def asked(s:aj):Bool:=decide (iN s>=0) && decide (iN s<=16)
structure s8(s:aj)(p k:Nat):Prop where
 ex:∃pre,Scan s p pre/\pre.length=k/\65533∉pre
 le:p<=s.length
 o4:k<=p
theorem s8.start(s:aj):s8 s 0 0:=⟨⟨[],Scan.start s,rfl,by simp⟩,Nat.zero_le _,Nat.le_refl _⟩
theorem s8.v_{s:aj}{p k:Nat}(h:s8 s p k)(he:s.drop p≠[])(hd:((dec (s.drop p)).1:Int)=65533):(-1:Int)=iN s:=by
 obtain⟨pre,h1,ag,aB⟩:=h.ex;have hm:=h1.mem he;have:(dec (s.drop p)).1=65533:=by omega
 rw[this] at hm;simp[iN,hm]
theorem s8.next{s:aj}{p k:Nat}(h:s8 s p k)(he:s.drop p≠[])(hd:((dec (s.drop p)).1:Int)≠65533):s8 s (p+(dec (s.drop p)).2) (k+1):=by
 obtain⟨pre,h1,ag,aB⟩:=h.ex;have aN:=h1.next he;refine⟨⟨_,aN,by simp[ag],?_⟩,aN.le,by have:=aN.len;simp[ag] at this;exact this⟩;simp only[List.mem_append,List.mem_singleton,not_or];exact⟨aB,λe=>hd aa⟩
theorem s8.fin{s:aj}{p k:Nat}(h:s8 s p k)(he:s.drop p=[]):(k:Int)=iN s:=by
 obtain⟨pre,h1,ag,aB⟩:=h.ex;have:=h1.done he;simp[iN,this,aB,ag]
theorem s8.lt{s:aj}{p k:Nat}(h:s8 s p k)(he:s.drop p≠[]):k<s.length:=by
 have:=h.o4
 have:p<s.length:=by
  rcases Nat.lt_or_ge p s.length with h|h
  . exact h
  . exact absurd (List.drop_of_length_le h) he
 omega
theorem acB(s:aj):-1<=iN s:=by unfold iN;split<;>omega
theorem acC(s:aj):iN s<=s.length:=by
 unfold iN;have:=Sd s;split<;>omega
def rising:List aj->Bool
 | []=>true
 | [_]=>true
 | a::b::r=>decide (Lib.compareBytes a b<0) && rising (b::r)
def e7(l:List aj):Int:=if l.length>60 then 3 else if l.all word=true then(if rising l=true then 0 else 7) else 6
def v'(l:List aj):Prop:=∀s∈l,s.length<=9223372036854775807
theorem v'.at{l:List aj}(h:v' l){k:Nat}{x:aj}(ah:l[k]?=some x):x.length<=9223372036854775807:=h x (List.mem_of_getElem? ah)
theorem Av{α:Type}{p:α->Bool}{l:List α}{k:Nat}{x:α}(h:(l.take k).all p=true)(ah:l[k]?=some x)(hp:p x=true):(l.take (k+1)).all p=true:=by
 rw[List.take_add_one,ah];simp_all
theorem HA{α:Type}{p:α->Bool}{l:List α}{k:Nat}(h:(l.take k).all p=true)(hk:l.length<=k):l.all p=true:=by
 rwa[List.take_of_length_le hk] at h
theorem LR{α:Type}{p:α->Bool}{l:List α}{k:Nat}{x:α}(ah:l[k]?=some x)(hp:p x=false):l.all p=false:=by
 rw[List.all_eq_false];exact⟨x,List.mem_of_getElem? ah,by simp[hp]⟩
theorem Se:∀{l:List aj} {k:Nat} {x y:aj},rising (l.take (k+1))=true->l[k]?=some x->l[k+1]?=some y->Lib.compareBytes x y<0->rising (l.take (k+2))=true
 | [],k,x,y,_,ah,_,_=>by simp at ah
 | a::l,0,x,y,h,ah,aD,al=>by
  cases l with
  | nil=>simp at aD
  | cons b l =>
   simp only[List.getElem?_cons_zero,Option.some.injEq] at ah
   simp only[Nat.zero_add,List.getElem?_cons_succ,List.getElem?_cons_zero,Option.some.injEq] at aD
   subst ah;subst aD
   simp[rising,al]
 | a::l,k+1,x,y,h,ah,aD,al=>by
  cases l with
  | nil=>simp at ah
  | cons b l =>
   simp only[List.take_succ_cons,rising,Bool.and_eq_true,decide_eq_true_eq] at h ⊢
   refine⟨h.1,?_⟩
   have:=Se (l:=b::l) (k:=k) (x:=x) (y:=y) (by simpa using h.2) u0 (by simpa using aD) al
   simpa using this
theorem Sf:∀{l:List aj} {k:Nat} {x y:aj},l[k]?=some x->l[k+1]?=some y->¬ Lib.compareBytes x y<0->rising l=false
 | [],k,x,y,ah,_,_=>by simp at ah
 | a::l,0,x,y,ah,aD,al=>by
  cases l with
  | nil=>simp at aD
  | cons b l =>
   simp only[List.getElem?_cons_zero,Option.some.injEq] at ah
   simp only[Nat.zero_add,List.getElem?_cons_succ,List.getElem?_cons_zero,Option.some.injEq] at aD
   subst ah;subst aD
   simp[rising,al]
 | a::l,k+1,x,y,ah,aD,al=>by
  cases l with
  | nil=>simp at ah
  | cons b l =>
   have:=Sf (l:=b::l) (k:=k) (x:=x) (y:=y) u0 (by simpa using aD) al
   simp[rising,this]
theorem Sg(l:List aj):rising (l.take 1)=true:=by
 cases l<;>rfl
theorem Sh{l:List aj}{k:Nat}{x:aj}(Ci:¬ ((l.length:Int)>60))(ah:l[k]?=some x)(hw:word x=false):(6:Int)=e7 l:=by
 unfold e7;rw[if_neg aa,if_neg (by rw[LR ah hw];simp)]
theorem acD{l:List aj}{k:Nat}{x y:aj}(Ci:¬ ((l.length:Int)>60))(ax:l.all word=true)(ah:l[k]?=some x)(aD:l[k+1]?=some y)(al:¬ Lib.compareBytes x y<0):(7:Int)=e7 l:=by
 unfold e7;rw[if_neg aa,if_pos ax,if_neg (by rw[Sf ah aD al];simp)]
theorem Si{l:List aj}{k:Nat}(Ci:¬ ((l.length:Int)>60))(ax:l.all word=true)(h:rising (l.take k)=true)(hk:l.length<=k):(0:Int)=e7 l:=by
 rw[List.take_of_length_le hk] at h;unfold e7;rw[if_neg aa,if_pos ax,if_pos h]
theorem dec_lt{s:aj}{p:Nat}(h:s.drop p≠[]):1<=(dec (s.drop p)).2/\p+(dec (s.drop p)).2<=s.length:=by
 have h1:=yG _ h;have ag:=Cf _ h;rw[List.length_drop] at ag
 have:p<s.length:=by
  rcases Nat.lt_or_ge p s.length with gO|gO
  . exact gO
  . exact absurd (List.drop_of_length_le gO) h
 omega
theorem HB{s:aj}(h:s.length<=9223372036854775807):bY (iN s):=by
 have h1:=acB s;have ag:=acC s;unfold bY;omega
theorem Sj:∀(a b:aj),-1<=Lib.compareBytes a b/\Lib.compareBytes a b<=1
 | [],[]=>by simp[Lib.compareBytes]
 | [],_::_=>by simp[Lib.compareBytes]
 | _::_,[]=>by simp[Lib.compareBytes]
 | a::x,b::y=>by
  unfold Lib.compareBytes
  split
  . omega
  . split
    . omega
    . exact Sj x y
theorem u1(a b:aj):bY (Lib.compareBytes a b):=by have:=Sj a b;unfold bY;omega
theorem Sk{l:List aj}{j:Nat}{x y:aj}(h:rising (l.take j)=true)(bn:1<=j)(ah:l[j-1]?=some x)(aD:l[j]?=some y)(al:Lib.compareBytes x y<0):rising (l.take (j+1))=true:=by
 obtain⟨k,rfl⟩:∃k,j=k+1:=⟨j-1,by omega⟩;exact Se h u0 aD al
theorem Sl{l:List aj}(h:(l.length:Int)>60):(3:Int)=e7 l:=by
 unfold e7;rw[if_pos aa]
theorem Sm{l:List aj}{j:Nat}{x y:aj}(Ci:¬ ((l.length:Int)>60))(ax:l.all word=true)(bn:1<=j)(ah:l[j-1]?=some x)(aD:l[j]?=some y)(al:¬ Lib.compareBytes x y<0):(7:Int)=e7 l:=by
 obtain⟨k,rfl⟩:∃k,j=k+1:=⟨j-1,by omega⟩;exact acD Ci ax u0 aD al
theorem yK(l:List aj):0<=e7 l/\e7 l<=7:=by
 unfold e7;repeat' split
 all_goals omega
def within(x least nh:Int):Bool:=decide (x>=least) && decide (x<=nh)
structure Key where
 len:Int
 text:aj
 deriving DecidableEq,Repr
def f_(k:Key):List Value:=[.int .i64 k.len,aE k.text]
theorem tZ(x:Key):(f_ x).length=2:=rfl
structure cE where
 words:List aj
 cuts:List Key
 workers:Int
 lP:Int
 s9:Int
 batch:Int
 s_:Int
 s':Int
 first:Int
 cap:Int
 ta:Int
 tc:Int
 deriving DecidableEq
structure cE.Ok(c:cE):Prop where
 workers:bY c.workers
 lP:bY c.lP
 s9:bY c.s9
 batch:bY c.batch
 s_:bY c.s_
 s':bY c.s'
 first:bY c.first
 cap:bY c.cap
 ta:bY c.ta
 tc:bY c.tc
 words:v' c.words
 cuts:∀k∈c.cuts,bY k.len/\k.text.length<=9223372036854775807
def pw(x y:Int):Int:=if x<y then -1 else if x>y then 1 else 0
def oF:List Int->Int
 | []=>0
 | x::r=>if x≠0 then x else oF r
theorem acE{l:List Int}{k:Nat}{x:Int}(h:oF l=oF (l.drop k))(ah:l[k]?=some x)(bH:x=0):oF l=oF (l.drop (k+1)):=by
 have hk:k<l.length:=(List.getElem?_eq_some_iff.1 ah).1;have e:l[k]=x:=(List.getElem?_eq_some_iff.1 ah).2;rw[h,List.drop_eq_getElem_cons hk,e];simp[oF,bH]
theorem Sn{l:List Int}{k:Nat}{x:Int}(h:oF l=oF (l.drop k))(ah:l[k]?=some x)(bH:x≠0):x=oF l:=by
 have hk:k<l.length:=(List.getElem?_eq_some_iff.1 ah).1;have e:l[k]=x:=(List.getElem?_eq_some_iff.1 ah).2;rw[h,List.drop_eq_getElem_cons hk,e];simp[oF,bH]
theorem Sp{l:List Int}{k:Nat}(h:oF l=oF (l.drop k))(hk:l.length<=k):(0:Int)=oF l:=by
 rw[h,List.drop_of_length_le hk];rfl
def HC(a b:Key):Int:=oF [pw a.len b.len,Lib.compareBytes a.text b.text]
def o5(a b:Key):Bool:=decide (HC a b<0)
def wa(c:Key):Bool:=!(decide (c.len<1) || decide (c.len>12) || decide (iN c.text<0) || decide (iN c.text>12))
def rN:List Key->Bool
 | []=>true
 | [_]=>true
 | a::b::r=>o5 a b && rN (b::r)
def t_(l:List Key):Int:=if l.length>5 then 3 else if l.all wa=true then(if rN l=true then 0 else 7) else 2
def LS(l:List Key)(k:Key):Nat:=(l.filter λc=>!o5 k c).length
def ofM(cuts:List Key)(w:aj):Int:=if word w then(LS cuts ⟨iN w,w⟩:Int) else -1
def t'(cuts:List Key)(shard:Int)(w:aj):Bool:=decide (ofM cuts w>=0) && (ofM cuts w==shard)
theorem Sq{cuts:List Key}{shard:Int}{w:aj}(h1:0<=ofM cuts w)(ag:ofM cuts w=shard):t' cuts shard w=true:=by simp[t',<-ag,h1]
theorem Sr{cuts:List Key}{shard:Int}{w:aj}(h1:¬ 0<=ofM cuts w):t' cuts shard w=false:=by simp[t',h1]
theorem Ss{cuts:List Key}{shard:Int}{w:aj}(ag:ofM cuts w≠shard):t' cuts shard w=false:=by simp[t',ag]
def rO(cuts:List Key)(words:List aj)(shard:Int):List aj:=words.filter (t' cuts shard)
theorem St(l:List Key):rN (l.take 1)=true:=by
 cases l<;>rfl
theorem Su:∀{l:List Key} {k:Nat} {x y:Key},rN (l.take (k+1))=true->l[k]?=some x->l[k+1]?=some y->o5 x y=true->rN (l.take (k+2))=true
 | [],k,x,y,_,ah,_,_=>by simp at ah
 | a::l,0,x,y,h,ah,aD,al=>by
  cases l with
  | nil=>simp at aD
  | cons b l =>
   simp only[List.getElem?_cons_zero,Option.some.injEq] at ah
   simp only[Nat.zero_add,List.getElem?_cons_succ,List.getElem?_cons_zero,Option.some.injEq] at aD
   subst ah;subst aD
   simp[rN,al]
 | a::l,k+1,x,y,h,ah,aD,al=>by
  cases l with
  | nil=>simp at ah
  | cons b l =>
   simp only[List.take_succ_cons,rN,Bool.and_eq_true] at h ⊢
   refine⟨h.1,?_⟩
   have:=Su (l:=b::l) (k:=k) (x:=x) (y:=y) (by simpa using h.2) u0 (by simpa using aD) al
   simpa using this
theorem Sv:∀{l:List Key} {k:Nat} {x y:Key},l[k]?=some x->l[k+1]?=some y->o5 x y=false->rN l=false
 | [],k,x,y,ah,_,_=>by simp at ah
 | a::l,0,x,y,ah,aD,al=>by
  cases l with
  | nil=>simp at aD
  | cons b l =>
   simp only[List.getElem?_cons_zero,Option.some.injEq] at ah
   simp only[Nat.zero_add,List.getElem?_cons_succ,List.getElem?_cons_zero,Option.some.injEq] at aD
   subst ah;subst aD
   simp[rN,al]
 | a::l,k+1,x,y,ah,aD,al=>by
  cases l with
  | nil=>simp at ah
  | cons b l =>
   have:=Sv (l:=b::l) (k:=k) (x:=x) (y:=y) u0 (by simpa using aD) al
   simp[rN,this]
theorem Sw{l:List Key}{j:Nat}{x y:Key}(h:rN (l.take j)=true)(bn:1<=j)(ah:l[j-1]?=some x)(aD:l[j]?=some y)(al:o5 x y=true):rN (l.take (j+1))=true:=by
 obtain⟨k,rfl⟩:∃k,j=k+1:=⟨j-1,by omega⟩;exact Su h u0 aD al
theorem Sx{l:List Key}(h:(l.length:Int)>5):(3:Int)=t_ l:=by
 unfold t_;rw[if_pos aa]
theorem Sy{l:List Key}{k:Nat}{x:Key}(c3:¬ ((l.length:Int)>5))(ah:l[k]?=some x)(hw:wa x=false):(2:Int)=t_ l:=by
 unfold t_;rw[if_neg aa,if_neg (by rw[LR ah hw];simp)]
theorem Sz{l:List Key}{j:Nat}{x y:Key}(c3:¬ ((l.length:Int)>5))(ax:l.all wa=true)(bn:1<=j)(ah:l[j-1]?=some x)(aD:l[j]?=some y)(al:o5 x y=false):(7:Int)=t_ l:=by
 obtain⟨k,rfl⟩:∃k,j=k+1:=⟨j-1,by omega⟩;unfold t_;rw[if_neg aa,if_pos ax,if_neg (by rw[Sv u0 aD al];simp)]
theorem SA{l:List Key}{k:Nat}(c3:¬ ((l.length:Int)>5))(ax:l.all wa=true)(h:rN (l.take k)=true)(hk:l.length<=k):(0:Int)=t_ l:=by
 rw[List.take_of_length_le hk] at h;unfold t_;rw[if_neg aa,if_pos ax,if_pos h]
theorem LU{α:Type}{p:α->Bool}{l:List α}{k:Nat}{x:α}(ah:l[k]?=some x)(hp:p x=true):(l.take (k+1)).filter p=(l.take k).filter p++[x]:=by
 rw[List.take_add_one,ah];simp[List.filter_append,hp]
theorem Es{α:Type}{p:α->Bool}{l:List α}{k:Nat}{x:α}(ah:l[k]?=some x)(hp:p x=false):(l.take (k+1)).filter p=(l.take k).filter p:=by
 rw[List.take_add_one,ah];simp[List.filter_append,hp]
theorem LV{α:Type}{p:α->Bool}{l:List α}{k:Nat}(h:l.length<=k):(l.take k).filter p=l.filter p:=by
 rw[List.take_of_length_le h]
def Et(c:cE):Bool:=within c.workers 1 5 && within c.lP 1 (min 3 c.workers)
def HD(c:cE):Bool:=within c.s9 1 4 && within c.batch 1 5 && within c.tc 8 64
def HE(c:cE):Bool:=within c.s_ 1 1000 && within c.s' 1 1000 && within c.first 1 10 && within c.cap c.first 50 && within c.ta 0 10
def may(c:cE):Bool:=(e7 c.words==0) && (t_ c.cuts==0) && (Et c && HD c && HE c)
def jf(c:cE):Nat:=if may c=true then c.cuts.length+1 else 0
def j3(c:cE)(shard:Int):List Int:=if within shard 0 ((jf c:Int)-1)=true then(List.range c.lP.toNat).map (λj:Nat=>1+(shard+(j:Int)) % c.workers) else[]
def b0(c:cE)(worker:Int):List Int:=((List.range (jf c)).filter (λs:Nat=>(j3 c (s:Int)).contains worker)).map (λs:Nat=>(s:Int))
def px(c:cE)(shard:Int):List aj:=rO c.cuts c.words shard
def qZ(l:List aj):Bool:=decide (l.length>80) || l.any λs=>decide (s.length>100)
def ss(c:cE):Bool:=decide (c.cuts.length>10) || (c.cuts.any λk=>decide (k.text.length>100)) || qZ c.words
def oG(x n:Int):Int:=(IntKind.u64.wrap x) % n
theorem SB{α:Type}{p:α->Bool}{l:List α}{k:Nat}{x:α}(h:(l.take k).any p=false)(ah:l[k]?=some x)(hp:p x=false):(l.take (k+1)).any p=false:=by
 rw[List.take_add_one,ah];simp_all
theorem SC{α:Type}{p:α->Bool}{l:List α}{k:Nat}(h:(l.take k).any p=false)(hk:l.length<=k):l.any p=false:=by
 rwa[List.take_of_length_le hk] at h
theorem SD{α:Type}{p:α->Bool}{l:List α}{k:Nat}{x:α}(ah:l[k]?=some x)(hp:p x=true):l.any p=true:=
 List.any_eq_true.2 ⟨x,List.mem_of_getElem? ah,hp⟩
theorem Eu{α:Type}{a b:List α}{k:Nat}{x y:α}(h:a.take k=b.take k)(ah:a[k]?=some x)(aD:b[k]?=some y)(e:x=y):a.take (k+1)=b.take (k+1):=by
 rw[List.take_add_one,List.take_add_one,ah,aD,h,e]
theorem Ev{α:Type}{a b:List α}{k:Nat}(h:a.take k=b.take k)(hk:a.length<=k)(bk:a.length=b.length):a=b:=by
 rwa[List.take_of_length_le hk,List.take_of_length_le aa] at h
theorem Cj{α:Type}{a b:List α}{k:Nat}{x y:α}(ah:a[k]?=some x)(aD:b[k]?=some y)(e:x≠y):a≠b:=λh=>by
 subst h;rw[ah] at aD;exact e (by simpa using aD)
def p4:List Int->Int->Int
 | [],_=>-1
 | x::r,v=>if v=x then 0 else(if p4 r v<0 then -1 else p4 r v+1)
theorem acF:∀(l:List Int) (v:Int),-1<=p4 l v
 | [],_=>by simp[p4]
 | x::r,v=>by unfold p4;have:=acF r v;split<;>(try split)<;>omega
structure u2(s:List Int)(v:Int)(k:Nat):Prop where
 none:∀x∈s.take k,v≠x
theorem u2.start(s:List Int)(v:Int):u2 s v 0:=⟨by simp⟩
theorem u2.next{s:List Int}{v:Int}{k:Nat}{x:Int}(h:u2 s v k)(ah:s[k]?=some x)(dL:v≠x):u2 s v (k+1):=by
 refine⟨λy aD=>?_⟩;rw[List.take_add_one,ah] at aD;simp only[Option.toList_some,List.mem_append,List.mem_singleton] at aD;rcases aD with aD|rfl
 . exact h.none y aD
 . exact dL
theorem SE:∀(s:List Int) (v:Int) (k:Nat),(∀x∈s.take k,v≠x)->s[k]?=some v->p4 s v=(k:Int)
 | [],_,_,_,h=>by simp at h
 | x::r,v,0,_,h=>by
  simp only[List.getElem?_cons_zero,Option.some.injEq] at h
  simp[p4,h]
 | x::r,v,k+1,aN,h=>by
  have h1:v≠x:=aN x di
  have cc:=SE r v k (λy aD=>aN y (by simp[aD])) (by simpa using h)
  rw[p4,if_neg h1,cc,if_neg aa];rfl
theorem SF:∀(s:List Int) (v:Int),(∀x∈s,v≠x)->p4 s v=-1
 | [],_,_=>rfl
 | x::r,v,aN=>by
  rw[p4,if_neg (aN x di),SF r v (λy aD=>aN y (by simp[aD])),if_pos aa]
theorem u2.found{s:List Int}{v:Int}{k:Nat}{x:Int}(h:u2 s v k)(ah:s[k]?=some x)(he:v=x):(k:Int)=p4 s v:=by
 subst he;exact(SE s v k h.none ah).symm
theorem u2.fin{s:List Int}{v:Int}{k:Nat}(h:u2 s v k)(hk:s.length<=k):(-1:Int)=p4 s v:=by
 have:=h.none;rw[List.take_of_length_le hk] at this;exact(SF s v this).symm
theorem SG:∀(s:List Int) (v:Int),s.contains v=decide (p4 s v>=0)
 | [],_=>by simp[p4]
 | x::r,v=>by
  have cc:=SG r v
  by_cases h:v=x
  . subst h;simp[p4]
  . have ab:(v==x)=false:=by simpa using h
    rw[List.contains_cons,ab,Bool.false_or,cc,p4,if_neg h]
    by_cases ag:p4 r v<0
    . rw[if_pos ag];simp;omega
    . rw[if_neg ag];simp;omega
theorem SH{c:cE}(h:may c=true):c.cuts.length<=5:=by
 simp only[may,Bool.and_eq_true,beq_iff_eq] at h;have ag:=h.1.2;unfold t_ at ag;by_cases bk:c.cuts.length>5
 . rw[if_pos bk] at ag;omega
 . omega
theorem acG{c:cE}(h:may c=true):c.words.length<=60:=by
 simp only[may,Bool.and_eq_true,beq_iff_eq] at h;have ag:=h.1.1;unfold e7 at ag;by_cases bk:c.words.length>60
 . rw[if_pos bk] at ag;omega
 . omega
theorem u3(c:cE):jf c<=6:=by
 unfold jf;split
 . rename_i h;have:=SH h;omega
 . omega
theorem acH{c:cE}{worker:Int}{k:Nat}{l:List Int}(h:l=((List.range k).filter (λs:Nat=>(j3 c (s:Int)).contains worker)).map (λs:Nat=>(s:Int)))(al:(j3 c (k:Int)).contains worker=true):
 l++[(k:Int)]=((List.range (k+1)).filter (λs:Nat=>(j3 c (s:Int)).contains worker)).map (λs:Nat=>(s:Int)):=by
 rw[h,List.range_succ,List.filter_append,List.map_append,List.filter_cons,if_pos al];rfl
theorem acI{c:cE}{worker:Int}{k:Nat}{l:List Int}(h:l=((List.range k).filter (λs:Nat=>(j3 c (s:Int)).contains worker)).map (λs:Nat=>(s:Int)))(al:(j3 c (k:Int)).contains worker=false):
 l=((List.range (k+1)).filter (λs:Nat=>(j3 c (s:Int)).contains worker)).map (λs:Nat=>(s:Int)):=by
 rw[h,List.range_succ,List.filter_append,List.map_append,List.filter_cons,if_neg (by rw[al];exact Bool.false_ne_true)];simp
theorem acJ{l:List aj}{k:Nat}{x:aj}(ah:l[k]?=some x)(h:(x.length:Int)>100):true=qZ l:=by
 unfold qZ;rw[SD ah (decide_eq_true aa)];simp
theorem arW{l:List aj}{b:Bool}(h:l.length>80)(ab:b=decide ((l.length:Int)>80)):b=qZ l:=by
 rw[ab,decide_eq_true aa,qZ,decide_eq_true h];rfl
theorem acK{c:cE}{k:Nat}{x:Key}(ah:c.cuts[k]?=some x)(h:(x.text.length:Int)>100):true=ss c:=by
 unfold ss;rw[SD ah (decide_eq_true aa)];simp
theorem acL{c:cE}(h:qZ c.words=true):true=ss c:=by unfold ss;rw[h];simp
theorem acM{c:cE}{k:Nat}{b:Bool}(h:(c.cuts.take k).any (λs=>decide (s.text.length>100))=false)(hk:c.cuts.length<=k\/c.cuts.length>10)(hw:qZ c.words=false)(ab:b=decide ((c.cuts.length:Int)>10)):b=ss c:=by
 rw[ab];unfold ss;rw[hw];by_cases ua:c.cuts.length>10
 . rw[decide_eq_true ua,decide_eq_true aa];simp
 . rw[decide_eq_false ua,decide_eq_false aa,SC h aa];simp
theorem Ew(x:Int):0<=IntKind.u64.wrap x/\IntKind.u64.wrap x<=18446744073709551615:=by
 simp only[IntKind.wrap,IntKind.bits,IntKind.signed];simp
 omega
theorem SI(n:Int)(h:0<=n/\n<=9223372036854775807):IntKind.u64.wrap n=n:=IntWalk.u64_in n aa
theorem Ex(x n:Int)(h:1<=n):0<=oG x n/\oG x n<n:=⟨Int.emod_nonneg _ aa,Int.emod_lt_of_pos _ aa⟩
theorem acN{x n:Int}(h:1<=n)(aN:bY n):IntKind.i64.wrap (IntKind.u64.wrap x % IntKind.u64.wrap n)=oG x n:=by
 have h1:=SI n ⟨by omega,aN.2⟩;have ag:=Ex x n h;rw[h1];exact IntWalk.i64_in _ ⟨by unfold oG at ag;omega,by have:=aN.2;unfold oG at ag;omega⟩
theorem oc{x l m:Int}(h:within x l m=true):l<=x/\x<=m:=by
 simp only[within,Bool.and_eq_true,decide_eq_true_eq] at h;omega
theorem p5{x l m:Int}(h:within x l m=false):x<l\/m<x:=by
 simp only[within,Bool.and_eq_false_iff,decide_eq_false_iff_not] at h;omega
theorem xx{c:cE}(h:may c=true):1<=c.workers/\c.workers<=5/\1<=c.lP/\c.lP<=3/\c.lP<=c.workers/\c.words.length<=60/\c.cuts.length<=5:=by
 have h1:=SH h;have ag:=acG h;simp only[may,Et,Bool.and_eq_true] at h;have aB:=oc h.2.1.1.1;have bE:=oc h.2.1.1.2;omega
theorem HF{c:cE}(h:0<jf c):may c=true:=by
 unfold jf at h;split at h
 . assumption
 . omega
theorem LW{c:cE}{shard:Int}{j:Nat}{l:List Int}(hw:within shard 0 ((jf c:Int)-1)=true)(ar:l=(List.range j).map (λj:Nat=>1+(shard+(j:Int)) % c.workers))(bn:j=c.lP.toNat):l=j3 c shard:=by
 subst bn;rw[ar,j3,if_pos hw]
theorem HG{c:cE}{shard:Int}(hw:within shard 0 ((jf c:Int)-1)=false):[]=j3 c shard:=by
 rw[j3,if_neg (by rw[hw];exact Bool.false_ne_true)]
theorem acO{l:List aj}{k:Nat}{b:Bool}(h:(l.take k).any (λs=>decide (s.length>100))=false)(hk:l.length<=k\/80<l.length)(ab:b=decide ((l.length:Int)>80)):b=qZ l:=by
 rw[ab];unfold qZ;by_cases su:l.length>80
 . rw[decide_eq_true su,decide_eq_true aa];rfl
 . rw[decide_eq_false su,decide_eq_false aa,SC h aa];rfl
def cE.okB(c:cE):Bool:=
 decide (bY c.workers) && decide (bY c.lP) && decide (bY c.s9) && decide (bY c.batch) && decide (bY c.s_) && decide (bY c.s') && decide (bY c.first) && decide (bY c.cap) && decide (bY c.ta) && decide (bY c.tc) &&
 (c.words.all λs=>decide (s.length<=9223372036854775807)) && (c.cuts.all λk=>decide (bY k.len) && decide (k.text.length<=9223372036854775807))
theorem cE.HH{c:cE}(h:c.okB=true):c.Ok:=by
 simp only[cE.okB,Bool.and_eq_true,decide_eq_true_eq,List.all_eq_true] at h;obtain⟨⟨⟨⟨⟨⟨⟨⟨⟨⟨⟨h1,ag⟩,aB⟩,bE⟩,c3⟩,eX⟩,kC⟩,su⟩,u4⟩,ua⟩,acP⟩,acQ⟩:=h;exact⟨h1,ag,aB,bE,c3,eX,kC,su,u4,ua,acP,acQ⟩
structure Key.Ok(k:Key):Prop where
 len:bY k.len
 text:k.text.length<=9223372036854775807
theorem head_cons{α:Type}{l:List α}{x:α}(h:l[0]?=some x):l=x::l.drop 1:=by
 cases l with
 | nil=>simp at h
 | cons a l=>simp at h;subst h;rfl
end Go.ak
namespace Go.aF
open Go
def dv(s:aj)(k:Nat):Nat:=(s[k]?.getD 0).toNat
theorem u5(s:aj)(k:Nat):dv s k<256:=by unfold dv;exact(s[k]?.getD 0).toNat_lt
section
variable {P:Program} {E:Env} {C:World->Prop} {d:Option Tmp} {ty:TypeId} {pos:String} {af:Array Edge} {gd:Option (Nat×Bool)}
theorem bz.od{s t:TypeId}{x:Operand}{k jz:IntKind}{p:Int}(aT:(P.underlying s).isSome=true)(a8:P.underlying t=some (.int jz))(ah:aP E x=some (.int k p))(hw:jz.wrap p=p):bz P ⟨d,.convert s t x,ty,pos,af,gd⟩ E C (.int jz p):=by
 have h:=bz.rJ (P:=P) (E:=E) (C:=C) (d:=d) (ty:=ty) (pos:=pos) (af:=af) (gd:=gd) aT a8 ah;rwa[hw] at h
theorem bz.acR{xt yt:TypeId}{x y:Operand}{k jz:IntKind}{p:Int}(r:Int)(ah:aP E x=some (.int k p))(aD:aP E y=some (.int jz 1))(a':p / 2=r):bz P ⟨d,.binOp .shr xt x y yt,ty,pos,af,gd⟩ E C (.int k r):=λa ax w _=>by
 have e:p.fdiv 2=r:=by rw[<-a'];exact Int.fdiv_eq_ediv_of_nonneg _ aa
 have hk:Min.min 1 k.bits=1:=by cases k<;>rfl
 simp[execOp,ax.aP ah,ax.aP aD,eqGuard,Go.binOp,Op.shift,hk,e]
theorem bz.mw{x y:Operand}{xt yt:TypeId}{p q:Int}(r:Int)(ah:aP E x=some (.int .i32 p))(aD:aP E y=some (.int .i32 q))(a':p+q=r/\-2147483648<=r/\r<=2147483647):bz P ⟨d,.binOp .add xt x y yt,ty,pos,af,gd⟩ E C (.int .i32 r):=by
 have h:=bz.add (P:=P) (C:=C) (d:=d) (xt:=xt) (yt:=yt) (ty:=ty) (pos:=pos) (af:=af) (gd:=gd) ah aD;rw[IntWalk.i32_in _ aa,a'.1] at h;exact h
theorem bz.yL{x y:Operand}{xt yt:TypeId}{p q:Int}(r:Int)(ah:aP E x=some (.int .i32 p))(aD:aP E y=some (.int .i32 q))(a':p-q=r/\-2147483648<=r/\r<=2147483647):bz P ⟨d,.binOp .sub xt x y yt,ty,pos,af,gd⟩ E C (.int .i32 r):=by
 have h:=bz.sub (P:=P) (C:=C) (d:=d) (xt:=xt) (yt:=yt) (ty:=ty) (pos:=pos) (af:=af) (gd:=gd) ah aD;rw[IntWalk.i32_in _ aa,a'.1] at h;exact h
theorem bz.qv{x y:Operand}{xt yt:TypeId}{p q:Int}(r:Int)(ah:aP E x=some (.int .i32 p))(aD:aP E y=some (.int .i32 q))(a':p*q=r/\-2147483648<=r/\r<=2147483647):bz P ⟨d,.binOp .mul xt x y yt,ty,pos,af,gd⟩ E C (.int .i32 r):=by
 have h:=bz.mul (P:=P) (C:=C) (d:=d) (xt:=xt) (yt:=yt) (ty:=ty) (pos:=pos) (af:=af) (gd:=gd) ah aD;rw[IntWalk.i32_in _ (by rw[a'.1];omega),a'.1] at h;exact h
theorem bz.yM{t:TypeId}{x y:Operand}{s:aj}{k:IntKind}{n:Int}(i:Nat)(a8:P.underlying t=some .string)(ah:aP E x=some (aE s))(aD:aP E y=some (.int k n))(aN:n=(i:Int))(ar:i<s.length):
 bz P ⟨d,.index t x y,ty,pos,af,gd⟩ E C (.int .u8 ((dv s i:Nat):Int)):=by
 have h:=bz.ace (P:=P) (E:=E) (C:=C) (d:=d) (ty:=ty) (pos:=pos) (af:=af) (gd:=gd) i a8 ah aD aN ar;have e:dv s i=s[i].toNat:=(by unfold dv;rw[List.getElem?_eq_getElem ar];rfl);rw[e];exact h
end
inductive c4{α β:Type}(R:α->β->Prop):List α->List β->Prop
 | nil:c4 R [] []
 | cons {a:α} {b:β} {l:List α} {m:List β}:R a b->c4 R l m->c4 R (a::l) (b::m)
theorem c4.imp{α β:Type}{R S:α->β->Prop}(h:∀a b,R a b->S a b){l:List α}{m:List β}(k:c4 R l m):c4 S l m:=by
 induction k with
 | nil=>exact .nil
 | cons h1 _ cc=>exact .cons (h _ _ h1) cc
theorem c4.get{α β:Type}{R:α->β->Prop}{l:List α}{m:List β}(k:c4 R l m):l.length=m.length/\∀(i:Nat) (a:α) (b:β),l[i]?=some a->m[i]?=some b->R a b:=by
 induction k with
 | nil=>exact⟨rfl,by simp⟩
 | cons h1 _ cc =>
  refine⟨by simp[cc.1],λi x y ah aD=>?_⟩
  cases i with
  | zero=>simp only[List.getElem?_cons_zero,Option.some.injEq] at ah aD;subst ah aD;exact h1
  | succ i=>exact cc.2 i x y u0 (by simpa using aD)
theorem c4.app{α β:Type}{R:α->β->Prop}{l dR:List α}{m m2:List β}(k:c4 R l m)(cB:c4 R dR m2):c4 R (l++dR) (m++m2):=by
 induction k with
 | nil=>exact cB
 | cons h1 _ cc=>exact .cons h1 cc
end Go.aF
namespace Go.ak
open Go.aF
def h2(s:aj)(k:Nat):Bool:=decide (k<s.length/\128<=dv s k/\dv s k<=191)
def gu(s:aj)(k:Nat):Int:=if h2 s k=true then(dv s k:Int)-128 else 0
def fA(s:aj)(i:Nat):Int×Int:=
 let c:Int:=(dv s i:Int)
 if c<128 then(c,1)
 else if c>=194/\c<=223/\h2 s (i+1)=true then((c-192)*64+gu s (i+1),2)
 else if c>=224/\c<=239/\h2 s (i+1)=true/\h2 s (i+2)=true then((c-224)*4096+gu s (i+1)*64+gu s (i+2),3)
 else if c>=240/\c<=244/\h2 s (i+1)=true/\h2 s (i+2)=true/\h2 s (i+3)=true then((c-240)*262144+gu s (i+1)*4096+gu s (i+2)*64+gu s (i+3),4)
 else(0,0)
def py(r:Int):Bool:=decide (r>=0) && decide (r<=1114111) && (decide (r<55296) || decide (r>57343)) && !(r==65533)
def wb(s:aj)(i:Nat):Bool:=(fA s i).2==0 || !py (fA s i).1 || ((fA s i).2==3 && decide ((fA s i).1<2048)) || ((fA s i).2==4 && decide ((fA s i).1<65536))
theorem get_at(s:aj)(k:Nat):((⟨s.toArray⟩:ByteArray).get! k).toNat=dv s k:=by
 unfold dv;show(s.toArray[k]!).toNat=_;simp[List.getElem!_eq_getElem?_getD];rfl
theorem LX(L i c:Nat)(al:c<256):(decide (i<L) && (c / 64==2))=decide (i<L/\128<=c/\c<=191):=by
 rw[Bool.eq_iff_iff];simp only[Bool.and_eq_true,decide_eq_true_eq,beq_iff_eq];omega
def u6(fp c1 c2 hG:Nat)(bF cB dG:Bool):Nat×Nat:=
 if fp<128 then(fp,1)
 else if (fp / 32==6 && bF)=true then(if fp % 32*64+c1 % 64>=128 then(fp % 32*64+c1 % 64,2) else(65533,1))
 else if (fp / 16==14 && bF && cB)=true then(if (decide (fp % 16*4096+c1 % 64*64+c2 % 64>=2048) && Utf8.valid ((fp % 16*4096+c1 % 64*64+c2 % 64:Nat):Int))=true then(fp % 16*4096+c1 % 64*64+c2 % 64,3) else(65533,1))
 else if (fp / 8==30 && bF && cB && dG)=true then(if (decide (fp % 8*262144+c1 % 64*4096+c2 % 64*64+hG % 64>=65536) && Utf8.valid ((fp % 8*262144+c1 % 64*4096+c2 % 64*64+hG % 64:Nat):Int))=true then(fp % 8*262144+c1 % 64*4096+c2 % 64*64+hG % 64,4) else(65533,1))
 else(65533,1)
theorem LY(s:aj)(i:Nat):dec (s.drop i)=u6 (dv s i) (dv s (i+1)) (dv s (i+2)) (dv s (i+3)) (h2 s (i+1)) (h2 s (i+2)) (h2 s (i+3)):=by
 have dM:(⟨s.toArray⟩:ByteArray).size=s.length:=(by simp[ByteArray.size]);rw[<-R7];unfold Utf8.decode u6 h2;simp only[get_at,dM,Nat.add_zero,Utf8.runeError];rw[LX _ _ _ (u5 s (i+1)),LX _ _ _ (u5 s (i+2)),LX _ _ _ (u5 s (i+3))]
def Aw(fp c1 c2 hG:Int)(bF cB dG:Bool):Int×Int:=
 if fp<128 then(fp,1)
 else if fp>=194/\fp<=223/\bF=true then((fp-192)*64+(if bF=true then c1-128 else 0),2)
 else if fp>=224/\fp<=239/\bF=true/\cB=true then((fp-224)*4096+(if bF=true then c1-128 else 0)*64+(if cB=true then c2-128 else 0),3)
 else if fp>=240/\fp<=244/\bF=true/\cB=true/\dG=true then((fp-240)*262144+(if bF=true then c1-128 else 0)*4096+(if cB=true then c2-128 else 0)*64+(if dG=true then hG-128 else 0),4)
 else(0,0)
theorem acS(s:aj)(i:Nat):fA s i=Aw (dv s i) (dv s (i+1)) (dv s (i+2)) (dv s (i+3)) (h2 s (i+1)) (h2 s (i+2)) (h2 s (i+3)):=rfl
def yN(p:Int×Int):Prop:=p.2=0\/¬ (p.1>=0/\p.1<=1114111/\(p.1<55296\/p.1>57343)/\p.1≠65533)\/(p.2=3/\p.1<2048)\/(p.2=4/\p.1<65536)
theorem Ey(s:aj)(i:Nat):wb s i=true↔yN (fA s i):=by
 unfold wb yN py;generalize (fA s i).1=r;generalize (fA s i).2=n;simp only[Bool.or_eq_true,Bool.and_eq_true,beq_iff_eq,decide_eq_true_eq,Bool.not_eq_true',Bool.and_eq_false_iff,Bool.or_eq_false_iff,decide_eq_false_iff_not,Bool.not_eq_false'];omega
theorem Ez(n:Nat):Utf8.valid (n:Int)=decide (n<55296\/(57344<=n/\n<=1114111)):=by
 unfold Utf8.valid;rw[Bool.eq_iff_iff];simp only[Bool.or_eq_true,Bool.and_eq_true,decide_eq_true_eq];omega
theorem arith(fp c1 c2 hG:Nat)(bH:fp<256)(bF cB dG:Bool)(h1:bF=true->128<=c1/\c1<=191)(ag:cB=true->128<=c2/\c2<=191)(aB:dG=true->128<=hG/\hG<=191):
 (yN (Aw fp c1 c2 hG bF cB dG)->(u6 fp c1 c2 hG bF cB dG).1=65533) /\
 (¬ yN (Aw fp c1 c2 hG bF cB dG)->((u6 fp c1 c2 hG bF cB dG).1:Int)=(Aw fp c1 c2 hG bF cB dG).1/\((u6 fp c1 c2 hG bF cB dG).2:Int)=(Aw fp c1 c2 hG bF cB dG).2/\(Aw fp c1 c2 hG bF cB dG).1≠65533):=by
 unfold u6 Aw yN;simp only[Ez]
 cases bF<;>cases cB<;>cases dG<;>simp only[Bool.and_true,Bool.and_false,Bool.false_eq_true,if_false,if_true,and_false,and_true,false_and,true_and,forall_const,false_implies,beq_iff_eq,Bool.and_eq_true,decide_eq_true_eq] at *<;>(repeat' split)<;>first|(simp only at *;omega)|omega
theorem SJ(s:aj)(i:Nat):(wb s i=true->(dec (s.drop i)).1=65533)/\(wb s i=false->((dec (s.drop i)).1:Int)=(fA s i).1/\((dec (s.drop i)).2:Int)=(fA s i).2/\(fA s i).1≠65533):=by
 have al:∀k,h2 s k=true->128<=dv s k/\dv s k<=191:=λk h=>by unfold h2 at h;exact(of_decide_eq_true h).2
 have h:=arith (dv s i) (dv s (i+1)) (dv s (i+2)) (dv s (i+3)) (u5 s i) _ _ _ (al (i+1)) (al (i+2)) (al (i+3));rw[<-LY,<-acS] at h;refine⟨λab=>h.1 ((Ey s i).1 ab),λab=>h.2 (λhp=>?_)⟩;rw[(Ey s i).2 hp] at ab;cases ab
theorem ub{s:aj}{i:Nat}:h2 s i=true↔(i<s.length/\128<=dv s i/\dv s i<=191):=by unfold h2;exact decide_eq_true_iff
theorem acT{s:aj}{i:Nat}(h:i<s.length/\128<=dv s i/\dv s i<=191):true=h2 s i:=(ub.2 h).symm
theorem acU{s:aj}{i:Nat}(h:¬ (i<s.length/\128<=dv s i/\dv s i<=191)):false=h2 s i:=by
 cases al:h2 s i with
 | false=>rfl
 | true=>exact absurd (ub.1 al) h
theorem acV{s:aj}{i:Nat}(h:i<s.length/\128<=dv s i/\dv s i<=191):((dv s i:Nat):Int)-128=gu s i:=by
 unfold gu;rw[if_pos (ub.2 h)]
theorem acW{s:aj}{i:Nat}(h:¬ (i<s.length/\128<=dv s i/\dv s i<=191)):(0:Int)=gu s i:=by
 unfold gu;rw[if_neg (λal=>h (ub.1 al))]
theorem Ck(s:aj)(i:Nat):0<=gu s i/\gu s i<=63:=by
 unfold gu;split
 . rename_i h;have:=ub.1 h;omega
 . omega
theorem acX{s:aj}{i:Nat}(h:((dv s i:Nat):Int)<128):((dv s i:Nat):Int)=(fA s i).1/\(1:Int)=(fA s i).2:=by
 unfold fA;simp only;rw[if_pos h];exact⟨rfl,rfl⟩
theorem acY{s:aj}{i:Nat}(h:¬ ((dv s i:Nat):Int)<128)(ag:((dv s i:Nat):Int)>=194/\((dv s i:Nat):Int)<=223/\h2 s (i+1)=true):
 (((dv s i:Nat):Int)-192)*64+gu s (i+1)=(fA s i).1/\(2:Int)=(fA s i).2:=by
 unfold fA;simp only;rw[if_neg h,if_pos ag];exact⟨rfl,rfl⟩
theorem SK{s:aj}{i:Nat}(h:¬ ((dv s i:Nat):Int)<128)(ag:¬ (((dv s i:Nat):Int)>=194/\((dv s i:Nat):Int)<=223/\h2 s (i+1)=true))
 (aB:((dv s i:Nat):Int)>=224/\((dv s i:Nat):Int)<=239/\h2 s (i+1)=true/\h2 s (i+2)=true) :
 (((dv s i:Nat):Int)-224)*4096+gu s (i+1)*64+gu s (i+2)=(fA s i).1/\(3:Int)=(fA s i).2:=by
 unfold fA;simp only;rw[if_neg h,if_neg ag,if_pos aB];exact⟨rfl,rfl⟩
theorem HI{s:aj}{i:Nat}(h:¬ ((dv s i:Nat):Int)<128)(ag:¬ (((dv s i:Nat):Int)>=194/\((dv s i:Nat):Int)<=223/\h2 s (i+1)=true))
 (aB:¬ (((dv s i:Nat):Int)>=224/\((dv s i:Nat):Int)<=239/\h2 s (i+1)=true/\h2 s (i+2)=true))
 (bE:((dv s i:Nat):Int)>=240/\((dv s i:Nat):Int)<=244/\h2 s (i+1)=true/\h2 s (i+2)=true/\h2 s (i+3)=true) :
 (((dv s i:Nat):Int)-240)*262144+gu s (i+1)*4096+gu s (i+2)*64+gu s (i+3)=(fA s i).1/\(4:Int)=(fA s i).2:=by
 unfold fA;simp only;rw[if_neg h,if_neg ag,if_neg aB,if_pos bE];exact⟨rfl,rfl⟩
theorem jg{s:aj}{i:Nat}(h:¬ ((dv s i:Nat):Int)<128)(ag:¬ (((dv s i:Nat):Int)>=194/\((dv s i:Nat):Int)<=223/\h2 s (i+1)=true))
 (aB:¬ (((dv s i:Nat):Int)>=224/\((dv s i:Nat):Int)<=239/\h2 s (i+1)=true/\h2 s (i+2)=true))
 (bE:¬ (((dv s i:Nat):Int)>=240/\((dv s i:Nat):Int)<=244/\h2 s (i+1)=true/\h2 s (i+2)=true/\h2 s (i+3)=true)) :
 (0:Int)=(fA s i).1/\(0:Int)=(fA s i).2:=by
 unfold fA;simp only;rw[if_neg h,if_neg ag,if_neg aB,if_neg bE];exact⟨rfl,rfl⟩
theorem acZ(s:aj)(i:Nat):0<=(fA s i).1/\(fA s i).1<=1500000/\0<=(fA s i).2/\(fA s i).2<=4:=by
 have bH:=u5 s i;have h1:=Ck s (i+1);have ag:=Ck s (i+2);have aB:=Ck s (i+3);unfold fA;simp only;repeat' split
 all_goals (simp only;omega)
theorem ac0(s:aj)(i:Nat)(ar:i<s.length):(i:Int)+(fA s i).2<=s.length:=by
 unfold fA;simp only;repeat' split
 all_goals simp only
 . omega
 . rename_i h;have:=(ub.1 h.2.2).1;omega
 . rename_i h;have:=(ub.1 h.2.2.2).1;omega
 . rename_i h;have:=(ub.1 h.2.2.2.2).1;omega
 . omega
theorem Cl(r:Int):py r=decide (0<=r/\r<=1114111/\(r<55296\/r>57343)/\r≠65533):=by
 unfold py;rw[Bool.eq_iff_iff];simp only[Bool.and_eq_true,Bool.or_eq_true,decide_eq_true_eq,Bool.not_eq_true',beq_eq_false_iff_ne];omega
theorem ac1{r:Int}{b:Bool}(h:0<=r/\r<=1114111/\(r<55296\/r>57343))(ab:b=(r != 65533)):b=py r:=by
 rw[ab,Cl,Bool.eq_iff_iff];simp only[bne_iff_ne,decide_eq_true_eq];omega
theorem ac2{r:Int}(h:¬ (0<=r/\r<=1114111/\(r<55296\/r>57343))):false=py r:=by
 rw[Cl,decide_eq_false aa]
structure ni(s:aj)(i:Nat)(l:List Int):Prop where
 ex:∃pre,Scan s i pre/\l=pre.map (λn:Nat=>(n:Int))/\65533∉pre
def d_(s:aj):List Int:=(hi s).map λn:Nat=>(n:Int)
def j4(s:aj):Bool:=decide (65533∉hi s)
theorem ni.start(s:aj):ni s 0 []:=⟨⟨[],Scan.start s,rfl,by simp⟩⟩
theorem ni.next{s:aj}{i j:Nat}{l:List Int}(h:ni s i l)(ar:i<s.length)(ab:wb s i=false)(bn:(j:Int)=(i:Int)+(fA s i).2):ni s j (l++[(fA s i).1]):=by
 obtain⟨pre,h1,ag,aB⟩:=h.ex;have hd:=(SJ s i).2 ab;have dL:s.drop i≠[]:=λe=>by have:=congrArg List.length e;simp at this;omega
 have aN:=h1.next dL;have e:j=i+(dec (s.drop i)).2:=(by omega);rw[e];refine⟨⟨_,aN,by rw[ag,List.map_append,<-hd.1];rfl,?_⟩⟩;simp only[List.mem_append,List.mem_singleton,not_or];exact⟨aB,λe=>by have:=hd.1;rw[<-e] at this;exact hd.2.2 this.symm⟩
theorem ni.bad{s:aj}{i:Nat}{l:List Int}(h:ni s i l)(ar:i<s.length)(ab:wb s i=true):false=j4 s:=by
 obtain⟨pre,h1,ag,aB⟩:=h.ex;have dL:s.drop i≠[]:=λe=>by have:=congrArg List.length e;simp at this;omega
 have:=h1.mem dL;rw[(SJ s i).1 ab] at this;unfold j4;simp[this]
theorem ni.fin{s:aj}{i:Nat}{l:List Int}(h:ni s i l)(ar:s.length<=i):l=d_ s/\true=j4 s:=by
 obtain⟨pre,h1,ag,aB⟩:=h.ex;have:=h1.done (List.drop_of_length_le ar);refine⟨by rw[ag,d_,this],?_⟩;unfold j4;rw[this];simp[aB]
theorem ni.len{s:aj}{i:Nat}{l:List Int}(h:ni s i l):l.length<=i:=by
 obtain⟨pre,h1,ag,aB⟩:=h.ex;rw[ag,List.length_map];exact h1.len
theorem ac3(s:aj):iN s=if j4 s=true then((d_ s).length:Int) else -1:=by
 unfold iN j4 d_;by_cases h:65533∈hi s
 . simp[h]
 . simp[h]
theorem ac4{s:aj}{i:Nat}(bH:(fA s i).2≠0)(aU:py (fA s i).1=true)(aB:¬ ((fA s i).2=3/\(fA s i).1<2048))(bE:¬ ((fA s i).2=4/\(fA s i).1<65536)):wb s i=false:=by
 cases ab:wb s i with
 | false=>rfl
 | true =>
  have:=(Ey s i).1 ab;rw[Cl] at aU;have:=of_decide_eq_true aU;unfold yN at *;omega
theorem SL{s:aj}{i:Nat}(h:(fA s i).2=0\/((fA s i).2=3/\(fA s i).1<2048)\/((fA s i).2=4/\(fA s i).1<65536)):wb s i=true:=by
 rw[Ey];unfold yN;omega
theorem SM{s:aj}{i:Nat}(h:py (fA s i).1=false):wb s i=true:=by
 rw[Ey];unfold yN;rw[Cl] at h;have:=of_decide_eq_false h;omega
def jK(s:aj):List Int:=if j4 s=true then d_ s else[]
theorem EA{s:aj}(h:false=j4 s):[]=jK s:=by unfold jK;rw[<-h];rfl
theorem EB{s:aj}(h:true=j4 s):d_ s=jK s:=by unfold jK;rw[<-h];rfl
theorem SN(s:aj):iN s=if j4 s=true then((jK s).length:Int) else -1:=by
 rw[ac3];by_cases h:j4 s=true
 . rw[if_pos h,if_pos h,jK,if_pos h]
 . rw[if_neg h,if_neg h]
theorem SO{s:aj}(h:j4 s=false):(-1:Int)=iN s:=by rw[SN,h];rfl
theorem SP{s:aj}(h:j4 s=true):(((jK s).length:Nat):Int)=iN s:=by rw[SN,if_pos h]
structure td(a b:aj)(i:Nat):Prop where
 eq:Lib.compareBytes a b=Lib.compareBytes (a.drop i) (b.drop i)
theorem td.start(a b:aj):td a b 0:=⟨rfl⟩
theorem yO{s:aj}{i:Nat}(h:i<s.length):s.drop i=s[i]::s.drop (i+1):=List.drop_eq_getElem_cons h
theorem Ax{s:aj}{i:Nat}(h:i<s.length):dv s i=s[i].toNat:=by unfold dv;rw[List.getElem?_eq_getElem h];rfl
theorem td.lt{a b:aj}{i:Nat}(h:td a b i)(ax:i<a.length)(ab:i<b.length)(al:dv a i<dv b i):(-1:Int)=Lib.compareBytes a b:=by
 rw[Ax ax,Ax ab] at al;rw[h.eq,yO ax,yO ab,Lib.compareBytes,if_pos (UInt8.lt_iff_toNat_lt.2 al)]
theorem td.gt{a b:aj}{i:Nat}(h:td a b i)(ax:i<a.length)(ab:i<b.length)(al:dv b i<dv a i):(1:Int)=Lib.compareBytes a b:=by
 rw[Ax ax,Ax ab] at al;rw[h.eq,yO ax,yO ab,Lib.compareBytes,if_neg (λhF=>by have:=UInt8.lt_iff_toNat_lt.1 hF;omega),if_pos (UInt8.lt_iff_toNat_lt.2 al)]
theorem td.next{a b:aj}{i:Nat}(h:td a b i)(ax:i<a.length)(ab:i<b.length)(al:dv a i=dv b i):td a b (i+1):=by
 rw[Ax ax,Ax ab] at al;refine⟨?_⟩;rw[h.eq,yO ax,yO ab,Lib.compareBytes,if_neg (λhF=>by have:=UInt8.lt_iff_toNat_lt.1 hF;omega),if_neg (λhF=>by have:=UInt8.lt_iff_toNat_lt.1 hF;omega)]
theorem td.fin{a b:aj}{i:Nat}(h:td a b i)(he:a.length<=i\/b.length<=i)(SQ:i<=a.length)(SR:i<=b.length){r:Int}(a':(a.length<b.length/\r=-1)\/(b.length<a.length/\r=1)\/(a.length=b.length/\r=0)):r=Lib.compareBytes a b:=by
 rw[h.eq];rcases a' with ⟨h1,ag⟩|⟨h1,ag⟩|⟨h1,ag⟩
 . have ab:i<b.length:=(by omega);rw[List.drop_of_length_le (show a.length<=i by omega),yO ab,ag];rfl
 . have ax:i<a.length:=(by omega);rw[List.drop_of_length_le (show b.length<=i by omega),yO ax,ag];rfl
 . rw[List.drop_of_length_le (show a.length<=i by omega),List.drop_of_length_le (show b.length<=i by omega),ag];rfl
end Go.ak
namespace Go.ak
open Go.aF
def kO(c:Nat):Prop:=c<=1114111/\(c<55296\/57343<c)/\c≠65533
def hR(n:Nat):UInt8:=UInt8.ofNat n
def eg(c:Nat):aj:=
 if c<128 then[hR c] else if c<2048 then[hR (192+c / 64),hR (128+c % 64)]
 else if c<65536 then[hR (224+c / 4096),hR (128+c / 64 % 64),hR (128+c % 64)]
 else[hR (240+c / 262144),hR (128+c / 4096 % 64),hR (128+c / 64 % 64),hR (128+c % 64)]
theorem ac5(r:Int)(h:Utf8.valid r=true):fE r=eg r.toNat:=by
 unfold fE Utf8.encode eg hR;simp only[h,if_true];by_cases h1:r.toNat<128
 . rw[if_pos h1,if_pos h1]
 . rw[if_neg h1,if_neg h1];by_cases ag:r.toNat<2048
   . rw[if_pos ag,if_pos ag]
   . rw[if_neg ag,if_neg ag];by_cases aB:r.toNat<65536
     . rw[if_pos aB,if_pos aB]
     . rw[if_neg aB,if_neg aB]
theorem yP{c:Nat}(h:kO c):fE (c:Int)=eg c:=by
 have cN:Utf8.valid (c:Int)=true:=(by rw[Ez];exact decide_eq_true (by unfold kO at h;omega));have:=ac5 _ cN;rwa[Int.toNat_natCast] at this
theorem xy(n:Nat):(hR n).toNat=n % 256:=by unfold hR;simp
theorem wc(s:aj)(k:Nat)(h:k<s.length):hR (dv s k)=s[k]:=by
 rw[Ax h];unfold hR;simp
theorem xz{a b:Nat}(h:a=b):hR a=hR b:=by rw[h]
theorem take_one{s:aj}(h:1<=s.length):s.take 1=[hR (dv s 0)]:=by
 rw[wc s 0 aa]
 match s,h with
 | a::r,_=>rfl
theorem ac6{s:aj}(h:2<=s.length):s.take 2=[hR (dv s 0),hR (dv s 1)]:=by
 rw[wc s 0 aa,wc s 1 aa]
 match s,h with
 | a::b::r,_=>rfl
theorem ac7{s:aj}(h:3<=s.length):s.take 3=[hR (dv s 0),hR (dv s 1),hR (dv s 2)]:=by
 rw[wc s 0 aa,wc s 1 aa,wc s 2 aa]
 match s,h with
 | a::b::c::r,_=>rfl
theorem ac8{s:aj}(h:4<=s.length):s.take 4=[hR (dv s 0),hR (dv s 1),hR (dv s 2),hR (dv s 3)]:=by
 rw[wc s 0 aa,wc s 1 aa,wc s 2 aa,wc s 3 aa]
 match s,h with
 | a::b::c::d::r,_=>rfl
theorem yQ {s:aj} (aT:s≠[]) (h:(dec s).1≠65533):kO (dec s).1∧eg (dec s).1=s.take (dec s).2:=by
 have bk:1≤s.length:=(by cases s with|nil=>exact absurd rfl aT|cons a r=>simp);have hd:=LY s 0;rw [List.drop_zero] at hd;rw [hd] at h ⊢;have nc:=u5 s 0; have aK:=u5 s 1; have aR:=u5 s 2; have bx:=u5 s 3;have c1:h2 s 1=true→1 < s.length∧128≤dv s 1∧dv s 1≤191:=fun h=>ub.1 h
 have c2:h2 s 2=true→2 < s.length∧128≤dv s 2∧dv s 2≤191:=fun h=>ub.1 h
 have hG:h2 s 3=true→3 < s.length∧128≤dv s 3∧dv s 3≤191:=fun h=>ub.1 h
 simp only [Nat.zero_add] at h ⊢;unfold u6 at h ⊢;simp only [Ez,Bool.and_eq_true,beq_iff_eq,decide_eq_true_eq] at h ⊢;split
 · rename_i bH;refine ⟨⟨by omega,by omega,by omega⟩,?_⟩;unfold eg;rw [if_pos bH,take_one bk]
 · rename_i bH;rw [if_neg bH] at h;split
   · rename_i h1;rw [if_pos h1] at h;have:=c1 h1.2;split
     · rename_i ag;rw [if_pos ag] at h;refine ⟨⟨by omega,by omega,h⟩,?_⟩;simp only;unfold eg;rw [if_neg aa,if_pos aa,ac6 aa];congr 1
       · exact xz aa
       · congr 1; exact xz aa
     · rename_i ag; rw [if_neg ag] at h; exact absurd rfl h
   · rename_i h1;rw [if_neg h1] at h;split
     · rename_i ag;rw [if_pos ag] at h;have:=c1 ag.1.2; have:=c2 ag.2;split
       · rename_i aB;rw [if_pos aB] at h;simp only at h;refine ⟨⟨by omega,by omega,h⟩,?_⟩;simp only;unfold eg;rw [if_neg aa,if_neg aa,if_pos aa,ac7 aa];congr 1
         · exact xz aa
         · congr 1
           · exact xz aa
           · congr 1; exact xz aa
       · rename_i aB; rw [if_neg aB] at h; exact absurd rfl h
     · rename_i ag;rw [if_neg ag] at h;split
       · rename_i aB;rw [if_pos aB] at h;have:=c1 aB.1.1.2; have:=c2 aB.1.2; have:=hG aB.2;split
         · rename_i bE;rw [if_pos bE] at h;simp only at h;refine ⟨⟨by omega,by omega,h⟩,?_⟩;simp only;unfold eg;rw [if_neg aa,if_neg aa,if_neg aa,ac8 aa];congr 1
           · exact xz aa
           · congr 1
             · exact xz aa
             · congr 1
               · exact xz aa
               · congr 1; exact xz aa
         · rename_i bE; rw [if_neg bE] at h; exact absurd rfl h
       · rename_i aB; rw [if_neg aB] at h; exact absurd rfl h
theorem HJ(a:UInt8)(s:aj):dv (a::s) 0=a.toNat:=rfl
theorem Cm(a b:UInt8)(s:aj):dv (a::b::s) 1=b.toNat:=rfl
theorem HK(a b c:UInt8)(s:aj):dv (a::b::c::s) 2=c.toNat:=rfl
theorem SS(a b c d:UInt8)(s:aj):dv (a::b::c::d::s) 3=d.toNat:=rfl
theorem Cn{s:aj}{k:Nat}(h:k<s.length/\128<=dv s k/\dv s k<=191):h2 s k=true:=ub.2 h
theorem LZ{c:Nat}(h:kO c)(t:aj):dec (eg c++t)=(c,(eg c).length):=by
 have hd:=LY (eg c++t) 0;rw[List.drop_zero] at hd;rw[hd];obtain⟨h1,ag,aB⟩:=h;unfold eg;simp only[Nat.zero_add];split
 . rename_i bH;simp only[List.cons_append,List.nil_append,HJ,xy];unfold u6;rw[if_pos aa];simp only[List.length_cons,List.length_nil,Prod.mk.injEq,and_true];omega
 . rename_i bH;split
   . rename_i ac9;have bF:h2 ([hR (192+c / 64),hR (128+c % 64)]++t) 1=true:=Cn bi;rw[bF];simp only[List.cons_append,List.nil_append,HJ,Cm,xy];unfold u6;rw[if_neg aa,if_pos Co,if_pos aa];simp only[List.length_cons,List.length_nil,Prod.mk.injEq,and_true];omega
   . rename_i ac9;split
     . rename_i ac_;have bF:h2 ([hR (224+c / 4096),hR (128+c / 64 % 64),hR (128+c % 64)]++t) 1=true:=Cn bi;have cB:h2 ([hR (224+c / 4096),hR (128+c / 64 % 64),hR (128+c % 64)]++t) 2=true:=Cn (by simp only[List.cons_append,List.nil_append,HK,xy,List.length_cons];omega);rw[bF,cB];simp only[List.cons_append,List.nil_append,HJ,Cm,HK,xy];unfold u6;rw[if_neg aa,if_neg Co,if_pos Co,if_pos (by rw[Ez];simp only[Bool.and_eq_true,decide_eq_true_eq];omega)];simp only[List.length_cons,List.length_nil,Prod.mk.injEq,and_true];omega
     . rename_i ac_;have bF:h2 ([hR (240+c / 262144),hR (128+c / 4096 % 64),hR (128+c / 64 % 64),hR (128+c % 64)]++t) 1=true:=Cn bi;have cB:h2 ([hR (240+c / 262144),hR (128+c / 4096 % 64),hR (128+c / 64 % 64),hR (128+c % 64)]++t) 2=true:=Cn (by simp only[List.cons_append,List.nil_append,HK,xy,List.length_cons];omega);have dG:h2 ([hR (240+c / 262144),hR (128+c / 4096 % 64),hR (128+c / 64 % 64),hR (128+c % 64)]++t) 3=true:=Cn (by simp only[List.cons_append,List.nil_append,SS,xy,List.length_cons];omega);rw[bF,cB,dG];simp only[List.cons_append,List.nil_append,HJ,Cm,HK,SS,xy];unfold u6;rw[if_neg aa,if_neg Co,if_neg Co,if_pos Co,if_pos (by rw[Ez];simp only[Bool.and_eq_true,decide_eq_true_eq];omega)];simp only[List.length_cons,List.length_nil,Prod.mk.injEq,and_true];omega
def ir(s:aj):Prop:=65533∉hi s
theorem SU{s:aj}:j4 s=true↔ir s:=by unfold j4 ir;exact decide_eq_true_iff
theorem yR{s:aj}(aT:s≠[]):ir s↔(dec s).1≠65533/\ir (s.drop (dec s).2):=by
 unfold ir;rw[xw aT,List.mem_cons,not_or];exact⟨λh=>⟨λe=>h.1 e.symm,h.2⟩,λh=>⟨λe=>h.1 e.symm,h.2⟩⟩
theorem ir.split{s:aj}(h:ir s)(aT:s≠[]):kO (dec s).1/\s=eg (dec s).1++s.drop (dec s).2/\ir (s.drop (dec s).2):=by
 have h1:=(yR aT).1 h;have ag:=yQ aT h1.1;exact⟨ag.1,by rw[ag.2,List.take_append_drop],h1.2⟩
theorem L0(c:Nat):eg c≠[]:=by
 unfold eg;repeat' split
 all_goals simp
theorem SV(c:Nat):1<=(eg c).length:=by
 unfold eg;repeat' split
 all_goals simp
theorem ir.app{c:Nat}{t:aj}(al:kO c)(a8:ir t):ir (eg c++t):=by
 have dL:eg c++t≠[]:=(by simp[L0]);rw[yR dL,LZ al t];simp only[List.drop_left];exact⟨al.2.2,a8⟩
theorem we{c:Nat}(al:kO c)(t:aj):hi (eg c++t)=c::hi t:=by
 have dL:eg c++t≠[]:=(by simp[L0]);rw[xw dL,LZ al t];simp only[List.drop_left]
def sv(rs:List Nat):aj:=rs.flatMap eg
theorem SX:∀(rs:List Nat),(∀c∈rs,kO c)->hi (sv rs)=rs
 | [],_=>xv
 | c::rs,h=>by
  show hi (eg c++sv rs)=_
  rw[we (h c di),SX rs λc al=>h c (by simp[al])]
theorem L3{p:aj->Prop}(bH:p [])(h1:∀c t,kO c->ir t->p t->p (eg c++t)):∀s,ir s->p s:=by
 have:∀n s,s.length<=n->ir s->p s:=by
  intro n
  induction n with
  | zero=>intro s aT _;have:s=[]:=List.eq_nil_of_length_eq_zero aa;subst this;exact bH
  | succ n cc =>
   intro s aT bC
   by_cases he:s=[]
   . subst he;exact bH
   . obtain⟨g1,g2,g3⟩:=bC.split he
     have:=yG s he
     rw[g2]
     exact h1 _ _ g1 g3 (cc _ (by rw[List.length_drop];omega) g3)
 exact λs bC=>this _ s (Nat.le_refl _) bC
theorem HL(s:aj)(h:ir s):sv (hi s)=s/\∀c∈hi s,kO c:=by
 revert s
 refine L3 ⟨by rw[xv];rfl,by rw[xv];simp⟩ ?_;intro c t al a8 cc;rw[we al];refine⟨by show eg c++sv (hi t)=_;rw[cc.1],λd hd=>?_⟩;rcases List.mem_cons.1 hd with rfl|hd
 . exact al
 . exact cc.2 d hd
theorem SY{s:aj}(h:ir s):iN s=((hi s).length:Int):=by unfold iN;rw[if_neg h]
theorem ac'{s:aj}(h:0<=iN s):ir s:=by
 unfold iN at h;split at h
 . omega
 . assumption
theorem L4{s:aj}(h:word s=true):ir s/\1<=(hi s).length/\(hi s).length<=12:=by
 unfold word at h;simp only[Bool.and_eq_true,decide_eq_true_eq] at h;have bC:=ac' (by omega:0<=iN s);rw[SY bC] at h;exact⟨bC,by omega,by omega⟩
end Go.ak
namespace Go.ak
open Go.aF
def nL(a b:aj):Prop:=Lib.compareBytes a b<0
theorem EC:∀(a:aj),Lib.compareBytes a a=0
 | []=>rfl
 | a::x=>by unfold Lib.compareBytes;rw[if_neg di,if_neg di];exact EC x
theorem cmp_eq:∀{a b:aj},Lib.compareBytes a b=0->a=b
 | [],[],_=>rfl
 | [],_::_,h=>by simp[Lib.compareBytes] at h
 | _::_,[],h=>by simp[Lib.compareBytes] at h
 | a::x,b::y,h=>by
  unfold Lib.compareBytes at h
  split at h
  . simp at h
  . split at h
    . simp at h
    . rename_i h1 ag
      have:a=b:=by
       apply UInt8.le_antisymm
       . exact UInt8.not_lt.1 ag
       . exact UInt8.not_lt.1 h1
      rw[this,cmp_eq h]
theorem SZ:∀(a b:aj),Lib.compareBytes a b=- Lib.compareBytes b a
 | [],[]=>rfl
 | [],_::_=>by simp[Lib.compareBytes]
 | _::_,[]=>by simp[Lib.compareBytes]
 | a::x,b::y=>by
  unfold Lib.compareBytes
  by_cases h1:a<b
  . have ag:¬ b<a:=UInt8.lt_asymm h1
    simp[h1,ag]
  . by_cases ag:b<a
    . simp[h1,ag]
    . simp only[h1,ag,if_false];exact SZ x y
theorem lt_trans:∀{a b c:aj},nL a b->nL b c->nL a c
 | [],[],_,h,_=>by simp[nL,Lib.compareBytes] at h
 | [],_::_,[],_,h=>by simp[nL,Lib.compareBytes] at h
 | [],_::_,_::_,_,_=>by simp[nL,Lib.compareBytes]
 | _::_,[],_,h,_=>by simp[nL,Lib.compareBytes] at h
 | _::_,_::_,[],_,h=>by simp[nL,Lib.compareBytes] at h
 | a::x,b::y,c::z,h1,ag=>by
  unfold nL Lib.compareBytes at *
  by_cases ED:a<b
  . by_cases Ay:b<c
    . simp[UInt8.lt_trans ED Ay]
    . by_cases EE:c<b
      . simp[Ay,EE] at ag
      . have:b=c:=UInt8.le_antisymm (UInt8.not_lt.1 EE) (UInt8.not_lt.1 Ay)
        subst this;simp[ED]
  . by_cases pz:b<a
    . simp[ED,pz] at h1
    . have:a=b:=UInt8.le_antisymm (UInt8.not_lt.1 pz) (UInt8.not_lt.1 ED)
      subst this
      simp only[ED,if_false] at h1
      by_cases Ay:a<c
      . simp[Ay]
      . by_cases EE:c<a
        . simp[Ay,EE] at ag
        . simp only[Ay,EE,if_false] at ag ⊢
          exact lt_trans (a:=x) (b:=y) (c:=z) h1 ag
theorem lt_irrefl(a:aj):¬ nL a a:=by unfold nL;rw[EC];omega
theorem ada{a b:aj}(h:¬ Lib.compareBytes a b<0)(aN:a≠b):nL b a:=by
 have h1:=SZ b a;have ag:Lib.compareBytes a b≠0:=λe=>aN (cmp_eq e)
 unfold nL;omega
def o6(l:List aj):Prop:=l.Pairwise nL
theorem S0:∀{l:List aj},rising l=true->o6 l
 | [],_=>List.Pairwise.nil
 | [a],_=>by simp[o6]
 | a::b::r,h=>by
  simp only[rising,Bool.and_eq_true,decide_eq_true_eq] at h
  have cc:=S0 h.2
  refine List.Pairwise.cons (λx ah=>?_) cc
  rcases List.mem_cons.1 ah with rfl|ah
  . exact h.1
  . exact lt_trans h.1 (List.rel_of_pairwise_cons cc ah)
theorem S1:∀{l:List aj},o6 l->rising l=true
 | [],_=>rfl
 | [a],_=>rfl
 | a::b::r,h=>by
  have gO:=List.pairwise_cons.1 h
  simp only[rising,Bool.and_eq_true,decide_eq_true_eq]
  exact⟨gO.1 b di,S1 gO.2⟩
theorem wg{l:List aj}(h:e7 l=0):l.length<=60/\(∀w∈l,word w=true)/\o6 l:=by
 unfold e7 at h;split at h
 . omega
 . split at h
   . split at h
     . rename_i h1 ag aB;exact⟨by omega,λw hw=>List.all_eq_true.1 ag w hw,S0 aB⟩
     . omega
   . omega
end Go.ak
namespace Go.ak
open Go.aF
structure cg where
 rune:Int
 to:Int
 deriving DecidableEq,Repr
def e2(x:cg):List Value:=[.int .i32 x.rune,.int .i64 x.to]
theorem lz(x:cg):(e2 x).length=2:=rfl
theorem u7(x:cg):(e2 x).all (·.oneCell')=true:=rfl
def gb(s:aj):Nat:=(dec s).1
def l8(s:aj):Nat:=(dec s).2
def dC(s:aj):aj:=s.take (dec s).2
def eZ(p:aj)(l:List aj):List aj:=(l.takeWhile λt=>p.isPrefixOf t).map λt=>t.drop p.length
def l9(p:aj)(l:List aj):List aj:=l.dropWhile λt=>p.isPrefixOf t
def Az:Nat->List aj->List (Nat×List aj)
 | 0,_=>[]
 | _+1,[]=>[]
 | n+1,s::r=>(gb s,eZ (dC s) (s::r))::Az n (l9 (dC s) (s::r))
def g_(l:List aj):List (Nat×List aj):=Az l.length l
theorem AA(s:aj):(dC s).isPrefixOf s=true:=by
 rw[List.isPrefixOf_iff_prefix];exact List.take_prefix _ _
theorem AB(s:aj)(r:List aj):(l9 (dC s) (s::r)).length<=r.length:=by
 unfold l9;rw[List.dropWhile_cons,if_pos (AA s)];exact(List.dropWhile_suffix _).length_le
theorem S2:∀(n m:Nat) (l:List aj),l.length<=n->l.length<=m->Az n l=Az m l
 | 0,0,_,_,_=>rfl
 | 0,m+1,l,h,_=>by have:l=[]:=List.eq_nil_of_length_eq_zero aa;subst this;rfl
 | n+1,0,l,_,h=>by have:l=[]:=List.eq_nil_of_length_eq_zero aa;subst this;rfl
 | n+1,m+1,[],_,_=>rfl
 | n+1,m+1,s::r,h1,ag=>by
  have:=AB s r
  simp only[List.length_cons] at h1 ag
  simp only[Az]
  rw[S2 n m _ aa aa]
theorem AD:g_ []=[]:=rfl
theorem Cp(s:aj)(r:List aj):g_ (s::r)=(gb s,eZ (dC s) (s::r))::g_ (l9 (dC s) (s::r)):=by
 have:=AB s r;show Az (r.length+1) (s::r)=_;simp only[Az];rw[S2 r.length _ _ this (Nat.le_refl _)];rfl
theorem S3(a b:UInt8)(s t:aj):Lib.compareBytes (a::s) (b::t)=if a<b then -1 else if b<a then 1 else Lib.compareBytes s t:=rfl
theorem adb(p s t:aj):Lib.compareBytes (p++s) (p++t)=Lib.compareBytes s t:=by
 induction p with
 | nil=>rfl
 | cons a p cc=>simp only[List.cons_append,S3];rw[if_neg di,if_neg di,cc]
theorem S4:∀(p a b u:aj),Lib.compareBytes (p++a) u<0->Lib.compareBytes u (p++b)<0->p.isPrefixOf u=true
 | [],_,_,_,_,_=>rfl
 | x::p,a,b,[],h,_=>by simp[Lib.compareBytes] at h
 | x::p,a,b,y::u,h1,ag=>by
  simp only[List.cons_append,S3] at h1 ag
  by_cases Cq:x<y
  . have:¬ y<x:=UInt8.lt_asymm Cq
    rw[if_neg this,if_pos Cq] at ag;omega
  . rw[if_neg Cq] at h1
    by_cases EF:y<x
    . rw[if_pos EF] at h1;omega
    . have e:x=y:=UInt8.le_antisymm (UInt8.not_lt.1 EF) (UInt8.not_lt.1 Cq)
      subst e
      rw[if_neg EF] at h1
      rw[if_neg EF,if_neg EF] at ag
      simp only[List.isPrefixOf,beq_self_eq_true,Bool.true_and]
      exact S4 p a b u h1 ag
structure gy(l:List aj):Prop where
 sorted:o6 l
 o7:∀s∈l,ir s
theorem gy.tail{s:aj}{r:List aj}(h:gy (s::r)):gy r:=⟨(List.pairwise_cons.1 h.sorted).2,λt a8=>h.o7 t (by simp[a8])⟩
theorem L5{l m:List aj}(h:o6 l)(aT:m <:+ l):o6 m:=h.sublist aT.sublist
theorem gy.more{l:List aj}(h:gy l)(p:aj):gy (l9 p l):=
 ⟨L5 h.sorted (List.dropWhile_suffix _),λt a8=>h.o7 t ((List.dropWhile_suffix _).subset a8)⟩
theorem HM{α:Type}{p:α->Bool}:∀{l:List α} {x:α},x∈l.takeWhile p->p x=true/\x∈l
 | [],x,h=>by simp at h
 | y::l,x,h=>by
  rw[List.takeWhile_cons] at h
  split at h
  . rename_i aD
    rcases List.mem_cons.1 h with rfl|h
    . exact⟨aD,by simp⟩
    . exact⟨(HM h).1,by simp[(HM h).2]⟩
  . simp at h
theorem Cr{p t:aj}(h:p.isPrefixOf t=true):t=p++t.drop p.length:=by
 rw[List.isPrefixOf_iff_prefix] at h;obtain⟨u,rfl⟩:=h;simp
theorem S5{p:aj}{l:List aj}{t:aj}(h:t∈eZ p l):p++t∈l:=by
 unfold eZ at h;obtain⟨u,hu,rfl⟩:=List.mem_map.1 h;have:=HM hu;rw[<-Cr this.1];exact this.2
theorem EG(p:aj)(l:List aj):(eZ p l).map (p++·)++l9 p l=l:=by
 unfold eZ l9;rw[List.map_map]
 have:(l.takeWhile λt=>p.isPrefixOf t).map ((p++·) ∘ λt=>t.drop p.length)=l.takeWhile λt=>p.isPrefixOf t:=by
  conv=>rhs;rw[<-List.map_id (l.takeWhile λt=>p.isPrefixOf t)]
  exact List.map_congr_left λt a8=>(Cr (HM a8).1).symm
 rw[this,List.takeWhile_append_dropWhile]
theorem ade{s:aj}{r:List aj}(h:gy (s::r)){p:aj}(hp:p.isPrefixOf s=true):∀t∈l9 p (s::r),p.isPrefixOf t=false:=by
 intro t a8
 cases ab:p.isPrefixOf t with
 | false=>rfl
 | true =>
  exfalso;have aT:l9 p (s::r) <:+ s::r:=List.dropWhile_suffix _
  cases hm:l9 p (s::r) with
  | nil=>rw[hm] at a8;simp at a8
  | cons u m =>
   have hu:p.isPrefixOf u=false:=by
    have:=List.head?_dropWhile_not (λt=>p.isPrefixOf t) (s::r)
    unfold l9 at hm
    rw[hm] at this
    simpa using this
   rw[hm] at a8;have EH:=L5 h.sorted aT;rw[hm] at EH;have adf:u≠s:=λe=>by rw[e,hp] at hu;cases hu
   have adg:u∈s::r:=aT.subset (by rw[hm];simp)
   have h1:nL s u:=by
    rcases List.mem_cons.1 adg with e|e
    . exact absurd e adf
    . exact(List.pairwise_cons.1 h.sorted).1 u e
   rcases List.mem_cons.1 a8 with rfl|a8
   . rw[ab] at hu;cases hu
   . have ag:nL u t:=(List.pairwise_cons.1 EH).1 t a8;have fV:=Cr hp;have je:=Cr ab;have:=S4 p (s.drop p.length) (t.drop p.length) u (by rw[<-fV];exact h1) (by rw[<-je];exact ag);rw[this] at hu;cases hu
theorem S6{s:aj}{r:List aj}(h:gy (s::r))(aT:s≠[]):gy (eZ (dC s) (s::r)):=by
 have q1:=(h.o7 s di).split aT;have hp:dC s=eg (gb s):=(yQ aT ((yR aT).1 (h.o7 s di)).1).2.symm;refine⟨?_,λt a8=>?_⟩
 . have:o6 ((eZ (dC s) (s::r)).map (dC s++·)):=h.sorted.sublist (by
    conv=>rhs;rw[<-EG (dC s) (s::r)]
    exact List.sublist_append_left _ _)
   unfold o6 at this ⊢;rw[List.pairwise_map] at this;exact this.imp λ{a b} mL=>by unfold nL at mL ⊢;rwa[adb] at mL
 . have hm:=h.o7 _ (S5 a8);rw[hp] at hm;have ag:=(yR (by simp[L0]):ir (eg (gb s)++t)↔_).1 hm;have e:=LZ q1.1 t;unfold gb at ag;rw[e] at ag;simpa using ag.2
structure adh(l:List aj)(gs:List (Nat×List aj)):Prop where
 all:gs.flatMap (λg=>g.2.map (eg g.1++·))=l
 e9:∀g∈gs,kO g.1/\g.2≠[]/\gy g.2
 part:gs.Pairwise λa b=>a.1≠b.1
theorem xA:∀(n:Nat) (l:List aj),l.length<=n->gy l->(∀s∈l,s≠[])->adh l (g_ l)
 | _,[],_,_,_=>⟨rfl,by simp[AD],by simp[AD]⟩
 | 0,s::r,h,_,_=>by simp at h
 | n+1,s::r,aN,h,dL=>by
  have bk:=AB s r
  simp only[List.length_cons] at aN
  have aT:=dL s di
  have bC:=h.o7 s di
  have q1:=bC.split aT
  have hp:dC s=eg (gb s):=(yQ aT ((yR aT).1 bC).1).2.symm
  have cc:=xA n (l9 (dC s) (s::r)) aa (h.more _) (λt a8=>dL t ((List.dropWhile_suffix _).subset a8))
  rw[Cp]
  refine⟨?_,?_,?_⟩
  . simp only[List.flatMap_cons]
    rw[cc.all,<-hp,EG]
  . intro g aU
    rcases List.mem_cons.1 aU with rfl|aU
    . refine⟨q1.1,?_,S6 h aT⟩
      unfold eZ
      rw[List.takeWhile_cons,if_pos (AA s)];simp
    . exact cc.e9 g aU
  . refine List.pairwise_cons.2 ⟨λg aU e=>?_,cc.part⟩
    have adi:=cc.e9 g aU
    obtain⟨t,a8⟩:∃t,t∈g.2:=by
     cases eE:g.2 with
     | nil=>exact absurd eE adi.2.1
     | cons t _=>exact⟨t,by simp⟩
    have hm:eg g.1++t∈l9 (dC s) (s::r):=by
     rw[<-cc.all]
     exact List.mem_flatMap.2 ⟨g,aU,List.mem_map.2 ⟨t,a8,rfl⟩⟩
    have:=ade h (AA s) _ hm
    rw[hp,<-e] at this
    have adj:(eg (gb s)).isPrefixOf (eg (gb s)++t)=true:=by rw[List.isPrefixOf_iff_prefix];exact List.prefix_append _ _
    simp only at this
    rw[adj] at this;cases this
abbrev c6:=List (List aj×List cg)
def fI:List aj->List aj
 | []::r=>r
 | l=>l
def lQ(add:c6->List aj->c6×Nat):c6->List (Nat×List aj)->c6×List cg
 | s,[]=>(s,[])
 | s,g::gs=>((lQ add (add s g.2).1 gs).1,⟨(g.1:Int),((add s g.2).2:Int)⟩::(lQ add (add s g.2).1 gs).2)
def e3:Nat->c6->List aj->c6×Nat
 | 0,s,_=>(s,0)
 | f+1,s,aL =>
  match s.findIdx? λx=>x.1==aL with
  | some i=>(s,i)
  | none=>((lQ (e3 f) (s++[(aL,[])]) (g_ (fI aL))).1.set s.length (aL,(lQ (e3 f) (s++[(aL,[])]) (g_ (fI aL))).2),s.length)
def te(words:List aj):c6:=(e3 13 [] words).1
def o8(s:c6)(x:List aj×List cg):Prop:=c4 (λg e=>e.rune=(g.1:Int)/\∃(j:Nat) (es:List cg),e.to=(j:Int)/\s[j]?=some (g.2,es)) (g_ (fI x.1)) x.2
def Deep(n:Nat)(l:List aj):Prop:=∀t∈l,(hi t).length<=n
structure AE(s:c6)(n:Nat)(x:List aj×List cg):Prop where
 wh:o8 s x
 e9:gy x.1
 ne:x.1≠[]
 deep:Deep n x.1
def names(s:c6):List (List aj):=s.map Prod.fst
theorem adk{s:c6}{r:List aj}{i:Nat}(h:(s.findIdx? λx=>x.1==r)=some i):∃es,s[i]?=some (r,es):=by
 obtain⟨h1,ag,_⟩:=List.findIdx?_eq_some_iff_getElem.1 h;refine⟨s[i].2,?_⟩;rw[List.getElem?_eq_getElem h1];have:s[i].1=r:=by simpa using ag
 rw[<-this]
theorem L6{s:c6}{r:List aj}(h:(s.findIdx? λx=>x.1==r)=none):r∉names s:=by
 intro hm;obtain⟨x,ah,rfl⟩:=List.mem_map.1 hm;have:=List.findIdx?_eq_none_iff.1 h x ah;simp at this
theorem u9{l:List aj}(h:gy l):gy (fI l)/\(∀s∈fI l,s≠[]):=by
 cases l with
 | nil=>exact⟨h,by simp[fI]⟩
 | cons a r =>
  cases a with
  | nil =>
   refine⟨h.tail,λs aT e=>?_⟩;have:=(List.pairwise_cons.1 h.sorted).1 s aT;subst e;exact lt_irrefl _ this
  | cons x a =>
   refine⟨h,λs aT e=>?_⟩;subst e;rcases List.mem_cons.1 aT with e|aT
   . cases e
   . have:=(List.pairwise_cons.1 h.sorted).1 _ aT;simp[nL,Lib.compareBytes] at this
theorem AF{l:List aj}{t:aj}(h:t∈fI l):t∈l:=by
 cases l with
 | nil=>exact h
 | cons a r =>
  cases a with
  | nil=>exact List.mem_cons_of_mem _ h
  | cons x a=>exact h
theorem S7{n:Nat}{l:List aj}(aU:gy l)(h:Deep (n+1) l):∀g∈g_ (fI l),Deep n g.2:=by
 intro g iO t a8;have hd:=u9 aU;have ok:=xA _ _ (Nat.le_refl _) hd.1 hd.2
 have hm:eg g.1++t∈fI l:=by
  rw[<-ok.all]
  exact List.mem_flatMap.2 ⟨g,iO,List.mem_map.2 ⟨t,a8,rfl⟩⟩
 have:=h _ (AF hm);rw[we (ok.e9 g iO).1] at this;simp only[List.length_cons] at this;omega
theorem o8.grow{s j0:c6}{x:List aj×List cg}(h:o8 s x)(aT:∀(j:Nat) (r:List aj) (es:List cg),s[j]?=some (r,es)->∃rP,j0[j]?=some (r,rP)):o8 j0 x:=
 c4.imp (λg e ⟨h1,j,es,ag,aB⟩=>⟨h1,j,(aT j _ _ aB).choose,ag,(aT j _ _ aB).choose_spec⟩) h
theorem AE.grow{s j0:c6}{n m:Nat}{x:List aj×List cg}(h:AE s n x)(aT:∀(j:Nat) (r:List aj) (es:List cg),s[j]?=some (r,es)->∃rP,j0[j]?=some (r,rP))(hm:n<=m):AE j0 m x:=
 ⟨h.wh.grow aT,h.e9,h.ne,λt a8=>Nat.le_trans (h.deep t a8) hm⟩
theorem adl(s t:c6):∀(j:Nat) (r:List aj) (es:List cg),s[j]?=some (r,es)->∃rP,(s++t)[j]?=some (r,rP):=λj r es h=>⟨es,by rw[List.getElem?_append_left (List.getElem?_eq_some_iff.1 h).1];exact h⟩
structure S8(n:Nat)(s:c6)(aL:List aj)(q:c6×Nat):Prop where
 tail:∃t,q.1=s++t/\∀x∈t,AE q.1 n x
 here:∃es,q.1[q.2]?=some (aL,es)
 apart:(names q.1).Nodup
structure S9(n:Nat)(s:c6)(gs:List (Nat×List aj))(q:c6×List cg):Prop where
 tail:∃t,q.1=s++t/\∀x∈t,AE q.1 n x
 yS:c4 (λg e=>e.rune=(g.1:Int)/\∃(j:Nat) (es:List cg),e.to=(j:Int)/\q.1[j]?=some (g.2,es)) gs q.2
 apart:(names q.1).Nodup
theorem S_{n:Nat}{add:c6->List aj->c6×Nat}:∀(gs:List (Nat×List aj)) (s:c6),(∀g∈gs,∀s,(names s).Nodup->S8 n s g.2 (add s g.2))->(names s).Nodup->S9 n s gs (lQ add s gs)
 | [],s,_,hd=>⟨⟨[],by simp[lQ],by simp⟩,.nil,hd⟩
 | g::gs,s,S',hd=>by
  have h1:=S' g di s hd
  have ag:=S_ gs (add s g.2).1 (λfy tf=>S' fy (by simp[tf])) h1.apart
  obtain⟨t1,fV,bF⟩:=h1.tail
  obtain⟨t2,je,cB⟩:=ag.tail
  refine⟨⟨t1++t2,?_,?_⟩,?_,ag.apart⟩
  . show(lQ add (add s g.2).1 gs).1=_
    rw[je,fV,List.append_assoc]
  . intro x ah
    show AE (lQ add (add s g.2).1 gs).1 n x
    rcases List.mem_append.1 ah with ah|ah
    . rw[je]
      exact(bF x ah).grow (adl _ _) (Nat.le_refl _)
    . exact cB x ah
  . refine .cons ⟨rfl,(add s g.2).2,?_⟩ ag.yS
    obtain⟨es,he⟩:=h1.here
    refine⟨es,rfl,?_⟩
    show(lQ add (add s g.2).1 gs).1[_]?=_
    rw[je,List.getElem?_append_left (List.getElem?_eq_some_iff.1 he).1];exact he
theorem adm{s:c6}{i:Nat}{r:List aj}{es rP:List cg}(h:s[i]?=some (r,es)):names (s.set i (r,rP))=names s:=by
 unfold names;rw[List.map_set];refine List.ext_getElem? λj=>?_
 rw[List.getElem?_set];split
 . rename_i m';subst m';have hN:=(List.getElem?_eq_some_iff.1 h).1;rw[if_pos (by simpa using hN),List.getElem?_map,h];rfl
 . rfl
theorem AG:∀(f:Nat) (s:c6) (aL:List aj),Deep f aL->gy aL->aL≠[]->(names s).Nodup->S8 f s aL (e3 (f+1) s aL)
 | f,s,aL,hd,aU,dL,aN=>by
  unfold e3
  cases ar:s.findIdx? λx=>x.1==aL with
  | some i=>exact⟨⟨[],by simp,by simp⟩,adk ar,aN⟩
  | none =>
   simp only
   have fZ:=L6 ar
   have nj:(names (s++[(aL,[])])).Nodup:=by
    unfold names
    rw[List.map_append,List.nodup_append]
    refine⟨aN,by simp,λa ax b ab=>?_⟩
    simp only[List.map_cons,List.map_nil,List.mem_singleton] at ab
    subst ab
    exact λe=>fZ (by rw[<-e];exact ax)
   have AH:=u9 aU
   have ok:=xA _ _ (Nat.le_refl _) AH.1 AH.2
   have HN:S9 (f-1) (s++[(aL,[])]) (g_ (fI aL)) (lQ (e3 f) (s++[(aL,[])]) (g_ (fI aL))):=by
    refine S_ _ _ (λg iO j0 An=>?_) nj
    cases f with
    | zero =>
     exfalso
     obtain⟨t,a8⟩:∃t,t∈g.2:=by
      cases eE:g.2 with
      | nil=>exact absurd eE (ok.e9 g iO).2.1
      | cons t _=>exact⟨t,by simp⟩
     have hm:eg g.1++t∈fI aL:=by
      rw[<-ok.all]
      exact List.mem_flatMap.2 ⟨g,iO,List.mem_map.2 ⟨t,a8,rfl⟩⟩
     have:=hd _ (AF hm)
     rw[we (ok.e9 g iO).1] at this
     simp at this
    | succ f =>
     have h1:=AG f j0 g.2 (S7 aU hd g iO) (ok.e9 g iO).2.2 (ok.e9 g iO).2.1 An
     exact h1
   generalize lQ (e3 f) (s++[(aL,[])]) (g_ (fI aL))=q at HN
   obtain⟨t,fV,bF⟩:=HN.tail
   have nf:q.1[s.length]?=some (aL,[]):=by rw[fV];simp
   have adn:q.1.set s.length (aL,q.2)=s++(aL,q.2)::t:=by
    rw[fV,List.append_assoc,List.set_append_right _ _ (Nat.le_refl _)]
    simp
   have p6:∀(j:Nat) (r:List aj) (es:List cg),q.1[j]?=some (r,es)->∃rP,(q.1.set s.length (aL,q.2))[j]?=some (r,rP):=by
    intro j r es bn
    by_cases oH:s.length=j
    . subst oH
      rw[nf] at bn
      simp only[Option.some.injEq,Prod.mk.injEq] at bn
      refine⟨q.2,?_⟩
      rw[List.getElem?_set_self (List.getElem?_eq_some_iff.1 nf).1,bn.1]
    . exact⟨es,by rw[List.getElem?_set_ne oH];exact bn⟩
   refine⟨⟨(aL,q.2)::t,adn,λx ah=>?_⟩,⟨q.2,?_⟩,?_⟩
   . rcases List.mem_cons.1 ah with rfl|ah
     . refine⟨?_,aU,dL,hd⟩
       exact c4.imp (λg e ⟨h1,j,es,ag,aB⟩=>⟨h1,j,(p6 j _ _ aB).choose,ag,(p6 j _ _ aB).choose_spec⟩) HN.yS
     . exact(bF x ah).grow p6 aa
   . show(q.1.set s.length (aL,q.2))[s.length]?=_
     rw[List.getElem?_set_self (List.getElem?_eq_some_iff.1 nf).1]
   . show(names (q.1.set s.length (aL,q.2))).Nodup
     rw[adm nf];exact HN.apart
structure Ta(s:c6)(words:List aj):Prop where
 root:∃es,s[0]?=some (words,es)
 node:∀x∈s,AE s 12 x
 apart:(names s).Nodup
theorem Cs{words:List aj}(hd:Deep 12 words)(aU:gy words)(dL:words≠[]):Ta (te words) words:=by
 have h:=AG 12 [] words hd aU dL (by simp[names]);obtain⟨t,e,k⟩:=h.tail
 have tg:(e3 13 [] words).2=0:=by
  unfold e3;simp
 refine⟨?_,λx ah=>?_,h.apart⟩
 . have:=h.here;rw[tg] at this;exact this
 . unfold te at ah ⊢;rw[e] at ah;exact k x u0
theorem th{l:List aj}(h:e7 l=0):gy l/\Deep 12 l:=by
 have hw:=wg h;exact⟨⟨hw.2.2,λs aT=>(L4 (hw.2.1 s aT)).1⟩,λs aT=>(L4 (hw.2.1 s aT)).2.2⟩
end Go.ak
namespace Go.aF
open Go
section
variable {α:Type} {enc:α->List Value} {e:TypeId} {sz:Nat} {w:World} {g:Nat} {v:Value} {l:List α}
theorem Tb(dM:∀x,(enc x).length=sz):∀(l:List α) (i:Nat) (x:α) (h:i<l.length),(l.set i x).flatMap enc=(l.flatMap enc).take (i*sz)++enc x++(l.flatMap enc).drop (i*sz+sz)
 | y::l,0,x,_=>by
  have fV:(enc y++l.flatMap enc).drop sz=l.flatMap enc:=by rw[<-dM y];exact List.drop_left
  simp only[List.set_cons_zero,List.flatMap_cons,Nat.zero_mul,List.take_zero,List.nil_append,Nat.zero_add,fV]
 | y::l,i+1,x,h=>by
  have cc:=Tb dM l i x (by simpa using h)
  have fV:(i+1)*sz=(enc y).length+i*sz:=by rw[dM,Nat.add_mul];omega
  have je:(i+1)*sz+sz=(enc y).length+(i*sz+sz):=by rw[fV,Nat.add_assoc]
  simp only[List.set_cons_succ,List.flatMap_cons]
  rw[fV,Nat.add_assoc,List.take_append,List.drop_append,List.take_of_length_le aa,List.drop_of_length_le aa,Nat.add_sub_cancel_left,Nat.add_sub_cancel_left,cc]
  simp
theorem Acc.at(h:Acc enc e sz w g v l){P:Program}{t:TypeId}{by_:Nat}{fU:Bool}{z:List Value}(a8:P.underlying t=some (.slice e))(he:eu P e=some (fU,sz,by_,z)){k:IntKind}{n:Int}(i:Nat)(aN:n=(i:Int))(ar:i<l.length):
 (∀w,(Instr.indexAt t v (.int k n)).run P w=.ok (ptr (g-1) (i*sz)) w)/\∃x,l[i]?=some x:=by
 rcases h with ⟨_,rfl,_⟩|⟨b,cap,cur,rfl,rfl,ag,aB,bE,c3,eX⟩
 . simp at ar
 . refine⟨λw=>?_,l[i],by simp[ar]⟩;have bH:(0:Int)<=n/\n<(l.length:Int):=(by omega);have fV:n.toNat=i:=(by omega);simp[Instr.indexAt,asIntOf,run_underlying a8,bH,run_sizeOf he,add_lit,ptr,fV]
theorem gF.oI{P:Program}{E:Env}{d:Option Tmp}{ty:TypeId}{pos:String}{af:Array Edge}{gd:Option (Nat×Bool)}{K:Value->World->Prop}{t:TypeId}{x y:Operand}{u:Value}{off n by_:Nat}{fU:Bool}{z vs:List Value}
 (h:Acc enc e sz w g v l) (dM:∀x,(enc x).length=sz) {i o:Nat} {oa:α} (hold:l[i]?=some oa) (q3:α) (a8:eu P t=some (fU,n,by_,z)) (ah:aP E x=some (ptr (g-1) off)) (uc:off=i*sz+o) (aD:aP E y=some u)
 (cN:u.cells.toList=vs) (aN:vs.length=n) (h1:vs.all (·.oneCell')=true) (ee:o+n<=sz) (ado:enc q3=(enc oa).take o++vs++(enc oa).drop (o+n))
 (eC:∀an,Mod (ca g) w an->an.heap.size=w.heap.size->Acc enc e sz an g v (l.set i q3)->K undef an):gF P ⟨d,.store t x y,ty,pos,af,gd⟩ E w K:=λa ax=>by
 obtain⟨ar,rfl⟩:=List.getElem?_eq_some_iff.1 hold
 subst uc
 rcases h with ⟨_,rfl,_⟩|⟨b,cap,cur,rfl,rfl,ag,aB,bE,c3,eX⟩
 . simp at ar
 . have tU:=rI dM l
   have ng:i*sz+sz<=l.length*sz:=by
    have:=Nat.mul_le_mul_right sz (show i+1<=l.length by omega)
    rw[Nat.add_mul] at this;omega
   have adp:l.length*sz<=cap*sz:=Nat.mul_le_mul_right _ aB
   simp only[Nat.add_sub_cancel] at ah
   have mK:=run_storeCells_at P b (i*sz+o) e vs 0 cur w ag aa (λu hu=>List.all_eq_true.1 h1 u hu)
   have adq:u.cells.size=n:=by rw[<-Array.length_toList,cN];exact aN
   have key:=Tb dM l i q3 ar
   have Hx:=(Hq dM l i ar).1
   have h:=eC (w.setRow b (cur.toList.take (i*sz+o)++vs++cur.toList.drop (i*sz+o+n)).toArray) ((Hr _ _ _).weaken (λi ar _=>by unfold ca;omega)) (by simp[World.setRow]) (.inr ⟨b,cap,_,rfl,by simp,setRow_heap w b cur _ e (0,0) ag,by simpa using aB,bE,by simp;omega,by
    rw[List.length_set,key,ado]
    have hP:cur.toList.length=cap*sz:=by simpa using c3
    have fV:(l.flatMap enc).take (i*sz)=cur.toList.take (i*sz):=by
     rw[<-eX,List.take_take,Nat.min_eq_left aa]
    have je:(enc l[i]).take o=(cur.toList.drop (i*sz)).take o:=by
     rw[<-Hx,List.take_take,Nat.min_eq_left aa,<-eX,List.drop_take,List.take_take,Nat.min_eq_left aa]
    have tY:(enc l[i]).drop (o+n)=(cur.toList.drop (i*sz+(o+n))).take (sz-(o+n)):=by
     rw[<-Hx,<-eX,List.drop_take,List.drop_drop,List.drop_take,List.take_take,Nat.min_eq_left aa]
    have EI:(l.flatMap enc).drop (i*sz+sz)=(cur.toList.drop (i*sz+sz)).take (l.length*sz-(i*sz+sz)):=by
     rw[<-eX,List.drop_take]
    rw[fV,je,tY,EI]
    have L7:cur.toList.take (i*sz+o)=cur.toList.take (i*sz)++(cur.toList.drop (i*sz)).take o:=by rw[List.take_add]
    have L8:(cur.toList.drop (i*sz+o+n)).take (l.length*sz-(i*sz+o+n))=(cur.toList.drop (i*sz+(o+n))).take (sz-(o+n))++(cur.toList.drop (i*sz+sz)).take (l.length*sz-(i*sz+sz)):=by
     have:l.length*sz-(i*sz+o+n)=(sz-(o+n))+(l.length*sz-(i*sz+sz)):=by omega
     rw[this,List.take_add,List.drop_drop]
     congr 3<;>omega
    rw[List.toList_toArray]
    rw[List.take_append,List.take_of_length_le (by simp;omega)]
    have L9:l.length*sz-(cur.toList.take (i*sz+o)++vs).length=l.length*sz-(i*sz+o+n):=by
     simp only[List.length_append,List.length_take,hP];omega
    rw[L9,L8,L7]
    simp only[List.append_assoc]⟩)
   simp only[Nat.add_zero,aN] at mK
   simp[execOp,ax.aP ah,ax.aP aD,ptr,Instr.storeAt,Instr.sureAddr,storeVar,run_sizeOf a8,adq,cN,mK,out]
   simpa using h
theorem Acc.shape(h:Acc enc e sz w g v l):∃a c,v=.slice a l.length c:=by
 obtain⟨a,c,h1,_⟩:=h.b9;exact⟨a,c,h1⟩
theorem Acc.cast{j2:List α}(h:Acc enc e sz w g v l)(nG:l=j2):Acc enc e sz w g v j2:=nG▸h
theorem Tc(z:List Value)(cS:0<z.length):∀n:Nat,(madeCells z.toArray (n*z.length)).toList=(List.replicate n z).flatten
 | 0=>by simp[madeCells]
 | n+1=>by
  have cc:=Tc z cS n
  rw[List.replicate_succ',List.flatten_append,<-cc]
  unfold madeCells
  simp only[List.size_toArray,Array.toList_map,Array.toList_range,Nat.add_mul,Nat.one_mul,List.flatten_cons,List.flatten_nil,List.append_nil]
  rw[List.range_add,List.map_append]
  congr 1
  rw[List.map_map]
  refine List.ext_getElem di λi h1 ag=>?_
  simp only[List.length_map,List.length_range] at h1
  simp[Nat.mod_eq_of_lt h1,h1]
theorem gF.makeSlice{P:Program}{E:Env}{d:Option Tmp}{ty:TypeId}{pos:String}{af:Array Edge}{gd:Option (Nat×Bool)}{K:Value->World->Prop}{t:TypeId}{x y:Operand}{Td HO:IntKind}{by_:Nat}{fU:Bool}{z:List Value}
 (n:Nat) (AI:α) (a8:P.underlying t=some (.slice e)) (he:eu P e=some (fU,sz,by_,z)) (bH:0<sz) (yT:enc AI=z) (dM:∀x,(enc x).length=sz) {p q:Int} (ah:aP E x=some (.int Td p)) (aD:aP E y=some (.int HO q)) (hp:p=(n:Int)) (dB:q=(n:Int)) (ab:n*by_<=140737488355328) (hm:n<=maxLen)
 (eC:∀gS fy an,Ext w an->fy=w.heap.size+1->an.heap.size=w.heap.size+1->Acc enc e sz an fy gS (List.replicate n AI)->K gS an) :
 gF P ⟨d,.makeSlice t x y,ty,pos,af,gd⟩ E w K:=λa ax=>by
 subst hp dB
 obtain⟨i,jJ,jZ,rM,i2,i3,i4,i5,Ek,R3⟩:=Cb he
 have EJ:(n:Int)<=9223372036854775807:=by have:n<=9223372036854775807:=hm;omega
 have Te:(i.bytes:Int)*(n:Int)<=281474976710656:=by
  rw[i5]
  have:((n*by_:Nat):Int)<=140737488355328:=by omega
  rw[Int.natCast_mul,Int.mul_comm] at this;omega
 have a':=run_make (P:=P) w t e i jZ a8 rM i3 Td HO (n:Int) (n:Int) aa (Int.le_refl _) Te EJ
 simp only[Int.toNat_natCast] at a'
 have vX:z.length=sz:=by rw[<-yT];exact dM _
 have fV:jZ.cells=z.toArray:=by rw[<-Ek]
 have al:(madeCells jZ.cells (n*i.size)).toList=(List.replicate n z).flatten:=by
  rw[fV,i4,<-vX];exact Tc z aa n
 have h:=eC _ _ (w.alloc (.cells (madeCells jZ.cells (n*i.size)) e)) (Mod.alloc _ _ _) rfl di (.inr ⟨w.heap.size,n,_,rfl,rfl,heap_alloc_new w _,by simp,hm,by rw[size_madeCells,i4],by
  rw[List.length_replicate,al]
  have:(List.replicate n z).flatten=(List.replicate n AI).flatMap enc:=by
   rw[List.flatMap_def,List.map_replicate,yT]
  rw[this,List.take_of_length_le]
  rw[rI dM,List.length_replicate];exact Nat.le_refl _⟩)
 simp only[List.length_replicate] at h
 simp[execOp,ax.aP ah,ax.aP aD,a',out]
 exact h
section
variable {P:Program} {E:Env} {d:Option Tmp} {ty:TypeId} {pos:String} {af:Array Edge} {gd:Option (Nat×Bool)} {K:Value->World->Prop} {t:TypeId} {x y:Operand} {by_:Nat} {fU:Bool} {z:List Value}
theorem arX.at{b:Nat}(k:IntKind)(nl n:Nat)(a8:P.underlying t=some (.slice e))(he:eu P e=some (fU,sz,by_,z)){p:Int}(i:Nat)(hp:p=(i:Int))(ar:i<n):∀w,(Instr.indexAt t (.slice (some ⟨b,nl*sz,none⟩) n n) (.int k p)).run P w=.ok (ptr b (nl*sz+i*sz)) w:=λw=>by
 have bH:(0:Int)<=p/\p<(n:Int):=by omega
 have fV:p.toNat=i:=by omega
 simp[Instr.indexAt,asIntOf,run_underlying a8,bH,run_sizeOf he,add_lit,ptr,fV]
end
end
end Go.aF
set_option linter.unusedSectionVars false
namespace Go.aF
open Go
section
variable {P:Program} {E:Env} {C:World->Prop} {d:Option Tmp} {ty:TypeId} {pos:String} {af:Array Edge} {gd:Option (Nat×Bool)} {w:World} {K:Value->World->Prop}
theorem Tf(op:BinOp)(t:TypeId)(x y:Operand)(w:World)(a b:Option Addr):(eqGuard op t x y (.pointer a) (.pointer b)).run P w=.ok () w:=by
 unfold eqGuard;split<;>simp
theorem bz.oe{xt yt e:TypeId}{x y:Operand}{a:Option Addr}(hu:P.underlying xt=some (.pointer e))(ah:aP E x=some (.pointer a))(aD:aP E y=some (.pointer none)):bz P ⟨d,.binOp .eql xt x y yt,ty,pos,af,gd⟩ E C (.bool a.isNone):=λs ax w _=>by
 have h:(Op.equal xt (.pointer a) (.pointer none)).run P w=.ok a.isNone w:=by
  have key:∀n,(Op.equalIn (n+1) xt (.pointer a) (.pointer none)).run P w=.ok a.isNone w:=λn=>by
   cases a<;>simp[Op.equalIn,run_underlying hu]
  exact key 9999
 simp[execOp,ax.aP ah,ax.aP aD,Tf,Go.binOp,h]
theorem bz.EK{xt yt e:TypeId}{x y:Operand}{a:Option Addr}(hu:P.underlying xt=some (.pointer e))(ah:aP E x=some (.pointer a))(aD:aP E y=some (.pointer none)):bz P ⟨d,.binOp .neq xt x y yt,ty,pos,af,gd⟩ E C (.bool (!a.isNone)):=λs ax w _=>by
 have h:(Op.equal xt (.pointer a) (.pointer none)).run P w=.ok a.isNone w:=by
  have key:∀n,(Op.equalIn (n+1) xt (.pointer a) (.pointer none)).run P w=.ok a.isNone w:=λn=>by
   cases a<;>simp[Op.equalIn,run_underlying hu]
  exact key 9999
 simp[execOp,ax.aP ah,ax.aP aD,Tf,Go.binOp,h]
theorem bz.adr{x:Operand}{b off:Nat}(ah:aP E x=some (ptr b off)):bz P ⟨d,.nilCheck x,ty,pos,af,gd⟩ E C (ptr b off):=λa ax w _=>by
 simp[execOp,ax.aP ah,ptr]
theorem bz.Ct{xt yt:TypeId}{x y:Operand}{xs ys:Array Value}{q:Bool}(aU:P.eqGuardType P.depth xt=false)(dB:∀w,(Op.equalIn 10000 xt (.agg xs) (.agg ys)).run P w=.ok q w)(ah:aP E x=some (.agg xs))(aD:aP E y=some (.agg ys)):bz P ⟨d,.binOp .eql xt x y yt,ty,pos,af,gd⟩ E C (.bool q):=λa ax w _=>by
 simp[execOp,ax.aP ah,ax.aP aD,run_eqGuard_agg _ _ _ _ _ _ _ aU,run_eql_struct,dB w,Result.andThen]
theorem bz.Tg{xt yt:TypeId}{x y:Operand}{xs ys:Array Value}{q:Bool}(aU:P.eqGuardType P.depth xt=false)(dB:∀w,(Op.equalIn 10000 xt (.agg xs) (.agg ys)).run P w=.ok q w)(ah:aP E x=some (.agg xs))(aD:aP E y=some (.agg ys)):bz P ⟨d,.binOp .neq xt x y yt,ty,pos,af,gd⟩ E C (.bool (!q)):=λa ax w _=>by
 simp[execOp,ax.aP ah,ax.aP aD,run_eqGuard_agg _ _ _ _ _ _ _ aU,run_neq_struct,dB w,Result.andThen]
theorem bz.field{xt:TypeId}{x:Operand}{i:Nat}{vs:Array Value}{v:Value}(ah:aP E x=some (.agg vs))(a':∀w,(Instr.field xt (.agg vs) i).run P w=.ok v w):bz P ⟨d,.field xt x i,ty,pos,af,gd⟩ E C v:=λa ax w _=>by
 simp[execOp,ax.aP ah,a' w]
theorem bz.makeFunc{fn:Fn}{ly cs:Array Operand}{first cap:List Value}(h1:qY E ly.toList=some first)(ag:qY E cs.toList=some cap):bz P ⟨d,.makeFunc fn ly cs,ty,pos,af,gd⟩ E C (.func fn first.toArray cap.toArray):=λa ax w _=>by
 have fV:ly.map a.eval=first.toArray:=by
  apply Array.ext';simpa using ax.qY h1
 have je:cs.map a.eval=cap.toArray:=by
  apply Array.ext';simpa using ax.qY ag
 simp[execOp,Instr.makeFunc,fV,je]
section
variable {α β:Type} [DecidableEq α] {key:α->Value} {val:β->Value} {kind:TypeDesc}
def nk(key:α->Value)(val:β->Value)(w:World)(b:Nat)(m:List (α×β)):Prop:=
 ∃es clock,w.heap[b]?=some (.map es clock)/\es.toList.map (λe=>(e.key,e.val))=m.map λp=>(key p.1,val p.2)
theorem nk.ext{an:World}{b:Nat}{m:List (α×β)}(h:nk key val w b m)(hm:Ext w an):nk key val an b m:=by
 obtain⟨es,c,h1,ag⟩:=h;exact⟨es,c,hm.keep _ _ h1 (λx=>x),ag⟩
theorem nk.lt{b:Nat}{m:List (α×β)}(h:nk key val w b m):b<w.heap.size:=by
 obtain⟨es,c,h1,ag⟩:=h;exact(Array.getElem?_eq_some_iff.1 h1).1
def gz(m:List (α×β))(a:α):Option β:=(m.find? λp=>decide (p.1=a)).map Prod.snd
theorem Th(aT:∀a b:α,Instr.sameNow kind (key a) (key b)=some (decide (a=b)))(a:α):∀(es:List MapEntry) (m:List (α×β)) (i:Nat),es.map (λe=>(e.key,e.val))=m.map (λp=>(key p.1,val p.2)) ->
 ∃j,Instr.findNow kind (key a) es i=some ((gz m a).map λx=>(j,val x))
 | [],m,i,h=>by
  cases m with
  | nil=>exact⟨0,rfl⟩
  | cons _ _=>simp at h
 | e::es,m,i,h=>by
  cases m with
  | nil=>simp at h
  | cons p m =>
   simp only[List.map_cons,List.cons.injEq,Prod.mk.injEq] at h
   obtain⟨⟨h1,ag⟩,aB⟩:=h
   unfold Instr.findNow
   rw[h1,aT a p.1]
   by_cases hp:a=p.1
   . refine⟨i,?_⟩
     simp[hp,gz,ag]
   . obtain⟨j,bn⟩:=Th aT a es m (i+1) aB
     refine⟨j,?_⟩
     have AJ:¬ (p.1=a):=λe=>hp e.symm
     simp only[decide_eq_false hp,bn,gz,List.find?_cons,decide_eq_false AJ]
structure KeyOk(P:Program)(e4:TypeId)(key:α->Value):Prop where
 q4:∀(e:Bool) (a:α) (w:World),(Instr.checkKey e 10000 e4 (key a)).run P w=.ok () w
 same:∃kind,P.underlying e4=some kind/\∀a b:α,Instr.sameNow kind (key a) (key b)=some (decide (a=b))
theorem L_{e4:TypeId}(h:P.underlying e4=some .string):KeyOk P e4 aE:=⟨λe a w=>by
 unfold Instr.checkKey;simp[run_underlying h,aE],⟨_,h,λa b=>by
 simp only[aE,Instr.sameNow,Option.some.injEq]
 rw[beq_toListBytes,toList_mk,toList_mk]
 by_cases mL:a=b<;>simp[mL]⟩⟩
def fB(n:Int):Value:=.int .i64 n
theorem u_{e4:TypeId}(h:P.underlying e4=some (.int .i64)):KeyOk P e4 fB:=⟨λe a w=>by
 unfold Instr.checkKey;simp[run_underlying h,fB],⟨_,h,λa b=>by
 simp only[fB,Instr.sameNow,Option.some.injEq,if_true]
 by_cases mL:a=b<;>simp[mL]⟩⟩
theorem run_findKey{e4:TypeId}(hk:KeyOk P e4 key)(a:α){es:List MapEntry}{m:List (α×β)}(h:es.map (λe=>(e.key,e.val))=m.map (λp=>(key p.1,val p.2)))(w:World):
 ∃j,(Instr.findKey e4 (key a) es).run P w=.ok ((gz m a).map λx=>(j,val x)) w:=by
 obtain⟨kind,hu,aT⟩:=hk.same;obtain⟨j,bn⟩:=Th aT a es m 0 h;refine⟨j,?_⟩;unfold Instr.findKey;simp only[Sem.run_bind,run_underlying hu,Result.andThen_ok,bn,Sem.run_pure]
theorem yU{b:Nat}{es:Array MapEntry}{c:Nat}(h:w.heap[b]?=some (.map es c)):(getObj b).run P w=.ok (.map es c) w:=by
 simp[getObj,Sem.run,h]
theorem bz.Ti{t e4 jo:TypeId}{g:Bool}{n by_:Nat}{x y:Operand}{b:Nat}{m:List (α×β)}{a:α}{z:Value}(hk:KeyOk P e4 key)(a8:P.underlying t=some (.map e4 jo))(cS:∀w,(zeroValue jo).run P w=.ok z w)(ah:aP E x=some (.map (some b)))(aD:aP E y=some (key a))(hm:∀w,C w->nk key val w b m):
 bz P ⟨d,.lookup t x y true,ty,pos,af,gd⟩ E C (.tuple #[(match gz m a with|some u=>val u|none=>z),.bool (gz m a).isSome]):=λs ax w hC=>by
 obtain⟨es,c,h1,ag⟩:=hm w hC
 obtain⟨j,bn⟩:=run_findKey (P:=P) hk a ag w
 have aU:=yU (P:=P) h1
 cases al:gz m a with
 | none =>
  rw[al] at bn
  simp[execOp,ax.aP ah,ax.aP aD,Instr.lookup,run_underlying a8,aU,hk.q4,bn,cS]
 | some u =>
  rw[al] at bn
  simp[execOp,ax.aP ah,ax.aP aD,Instr.lookup,run_underlying a8,aU,hk.q4,bn]
theorem bz.Tj{t e4 jo:TypeId}{x y:Operand}{b:Nat}{m:List (α×β)}{a:α}{z:Value}(hk:KeyOk P e4 key)(a8:P.underlying t=some (.map e4 jo))(cS:∀w,(zeroValue jo).run P w=.ok z w)(ah:aP E x=some (.map (some b)))(aD:aP E y=some (key a))(hm:∀w,C w->nk key val w b m):
 bz P ⟨d,.lookup t x y false,ty,pos,af,gd⟩ E C (match gz m a with|some u=>val u|none=>z):=λs ax w hC=>by
 obtain⟨es,c,h1,ag⟩:=hm w hC
 obtain⟨j,bn⟩:=run_findKey (P:=P) hk a ag w
 have aU:=yU (P:=P) h1
 cases al:gz m a with
 | none =>
  rw[al] at bn
  simp[execOp,ax.aP ah,ax.aP aD,Instr.lookup,run_underlying a8,aU,hk.q4,bn,cS]
 | some u =>
  rw[al] at bn
  simp[execOp,ax.aP ah,ax.aP aD,Instr.lookup,run_underlying a8,aU,hk.q4,bn]
theorem AK(w:World)(b:Nat)(o:Obj):Mod (ca (b+1)) w { w with heap:=w.heap.setIfInBounds b o }:=
 ⟨rfl,rfl,rfl,by simp,λk L' hk aN=>by
  have:b≠k:=λe=>aN (by unfold ca;omega)
  show(w.heap.setIfInBounds b _)[k]?=_
  rw[Array.getElem?_setIfInBounds_ne this];exact hk⟩
theorem gF.Tk{t e4 jo:TypeId}{x y z:Operand}{b:Nat}{m:List (α×β)}{a:α}{u:β}(hk:KeyOk P e4 key)(a8:P.underlying t=some (.map e4 jo))(ah:aP E x=some (.map (some b)))(aD:aP E y=some (key a))(cS:aP E z=some (val u))(hm:nk key val w b m)(fZ:gz m a=none)
 (eC:∀an,Mod (ca (b+1)) w an->an.heap.size=w.heap.size->nk key val an b (m++[(a,u)])->K undef an):gF P ⟨d,.mapUpdate t x y z,ty,pos,af,gd⟩ E w K:=λs ax=>by
 obtain⟨es,c,h1,ag⟩:=hm
 obtain⟨j,bn⟩:=run_findKey (P:=P) hk a ag w
 rw[fZ] at bn
 have aU:=yU (P:=P) h1
 have hN:=(Array.getElem?_eq_some_iff.1 h1).1
 have h:=eC _ (AK w b (.map (es.push { key:=key a,val:=val u,born:=c }) (c+1))) di ⟨es.push { key:=key a,val:=val u,born:=c },c+1,by
  show(w.heap.setIfInBounds b _)[b]?=_
  simp[hN],by simp[ag]⟩
 simp[execOp,ax.aP ah,ax.aP aD,ax.aP cS,Instr.mapUpdate,run_underlying a8,aU,hk.q4,bn,setObj,Sem.run,h1,out]
 exact h
theorem gF.makeMap{t:TypeId}(eC:∀an b,Ext w an->b=w.heap.size->an.heap.size=w.heap.size+1->nk key val an b []->K (.map (some b)) an):gF P ⟨d,.makeMap t none,ty,pos,af,gd⟩ E w K:=λs ax=>by
 have h:=eC (w.alloc (.map #[] 0)) w.heap.size (Mod.alloc _ _ _) rfl di ⟨#[],0,by
  show(w.heap.push _)[w.heap.size]?=_
  simp,by simp⟩
 simp[execOp,Instr.makeMap,newObj,Sem.run,out]
 exact h
end
end
def kk(w:World)(c5 ar b:Nat)(cs:List Value):Prop:=c5<=b/\b<ar/\Row w b 0 cs
theorem kk.ext{w an:World}{c5 ar b:Nat}{cs:List Value}(h:kk w c5 ar b cs)(hm:Ext w an):kk an c5 ar b cs:=⟨h.1,h.2.1,h.2.2.ext hm⟩
theorem kk.bD{w an:World}{c5 ar b g:Nat}{cs:List Value}(h:kk w c5 ar b cs)(hm:Mod (ca g) w an)(aU:g<=c5\/ar<g):kk an c5 ar b cs:=⟨h.1,h.2.1,h.2.2.bD hm (by have:=h.1;have:=h.2.1;omega)⟩
theorem kk.cell{w:World}{c5 ar b:Nat}{cs:List Value}(h:kk w c5 ar b cs)(i:Nat)(v:Value)(cN:cs[i]?=some v):Row w b i [v]:=λj u hu=>by
 cases j with
 | zero =>
  simp only[List.getElem?_cons_zero,Option.some.injEq] at hu
  subst hu
  have:=h.2.2 i v cN
  simpa using this
 | succ j=>simp at hu
structure cP where
 a:Option Addr
 n:Nat
 c:Nat
def cP.val(h:cP):Value:=.slice h.a h.n h.c
def Cu(g h:Nat):Nat->Prop:=λb=>b+1=g\/b+1=h
theorem Mod.Tl{g g1 g2:Nat}{w0 w an:World}(h:Mod (Cu g1 g2) w0 w)(k:Mod (ca g) w an)(aU:g=0\/w0.heap.size<g\/g=g1\/g=g2):Mod (Cu g1 g2) w0 an:=
 h.then k (λi ar bk=>by unfold ca at ar;unfold Cu;omega)
inductive AL where
 | int (k:IntKind)
 | str
 | bool
def Ma(P:Program)(f:Field):Option (Nat×AL):=
 match P.underlying f.type with
 | some (.int k) => if f.name ≠ "_" then some (f.offset, .int k) else none
 | some .string => if f.name ≠ "_" then some (f.offset, .str) else none
 | some .bool => if f.name ≠ "_" then some (f.offset, .bool) else none
 | _=>none
def nm:AL->Value->Value->Option Bool
 | .int k,.int j a,.int RN b=>if j=k/\RN=k then some (a==b) else none
 | .str,.string a,.string b=>some (a.toList==b.toList)
 | .bool,.bool a,.bool b=>some (a==b)
 | _,_,_=>none
def mx:List (Nat×AL)->Array Value->Array Value->Option Bool
 | [],_,_=>some true
 | (o,k)::r,xs,ys =>
  match xs[o]?,ys[o]? with
  | some x,some y=>match nm k x y with
   | some true=>mx r xs ys
   | some false=>some false
   | none=>none
  | _,_=>none
def yV(P:Program):List Field->Option (List (Nat×AL))
 | []=>some []
 | f::r=>match Ma P f,yV P r with
  | some k,some ks=>some (k::ks)
  | _,_=>none
theorem HP {P : Program} {xs ys : Array Value} {n : Nat} (w : World) : ∀ (ly : List Field) (ks : List (Nat × AL)) (q : Bool), yV P ly = some ks → mx ks xs ys = some q → (Op.eqFields (n + 1) xs ys ly).run P w = .ok q w
  | [], ks, q, h1, ag => by
    simp only [yV, Option.some.injEq] at h1
    subst h1
    simp only [mx, Option.some.injEq] at ag
    subst ag
    simp [Op.eqFields]
  | f :: ly, ks, q, h1, ag => by
    unfold yV at h1
    cases hk : Ma P f with
    | none => simp [hk] at h1
    | some k =>
      cases lf : yV P ly with
      | none => simp [hk, lf] at h1
      | some ads =>
        simp only [hk, lf, Option.some.injEq] at h1
        subst h1
        obtain ⟨o, k⟩ := k
        unfold mx at ag
        have key : ∀ (d : TypeDesc), P.underlying f.type = some d → f.name ≠ "_" → f.offset = o → (∀ s, d ≠ .struct s) → (∀ a b, d ≠ .array a b) → (∀ x y r, nm k x y = some r → (Op.equalIn (n + 1) f.type x y).run P w = .ok r w) → (Op.eqFields (n + 1) xs ys (f :: ly)).run P w = .ok q w := by
          intro d hu aN ee aT ax he
          cases ah : xs[o]? with
          | none => simp [ah] at ag
          | some x =>
            cases aD : ys[o]? with
            | none => simp [ah, aD] at ag
            | some y =>
              simp only [ah, aD] at ag
              have Tm : ∀ cs : Array Value, (part f.type cs f.offset).run P w = (match cs[f.offset]? with | some v => .ok v w | none => ((stuck "part: no such cell" : Sem Value)).run P w) := by
                intro cs
                unfold part isAgg
                simp only [Sem.run_bind, run_underlying hu, Result.andThen_ok]
                cases d <;> simp_all <;> (split <;> simp_all)
              have AM := Tm xs; have HQ := Tm ys
              rw [ee] at AM HQ
              rw [ah] at AM; rw [aD] at HQ
              cases al : nm k x y with
              | none => simp [al] at ag
              | some r =>
                have a' := he x y r al
                rw [al] at ag
                have cc := fun h => HP (P := P) (xs := xs) (ys := ys) (n := n) w ly ads q lf h
                cases r with
                | false =>
                  simp only [Option.some.injEq] at ag
                  subst ag
                  simp [Op.eqFields, aN, ee, AM, HQ, a']
                | true =>
                  have := cc ag
                  simp [Op.eqFields, aN, ee, AM, HQ, a', this]
        unfold Ma at hk
        cases hu : P.underlying f.type with
        | none => simp [hu] at hk
        | some d =>
          cases d <;> simp only [hu, reduceCtorEq] at hk <;> (split at hk) <;> (try cases hk) <;> rename_i aN
          all_goals refine key _ hu aN rfl (by intro s h; cases h) (by intro a b h; cases h) fun x y r al => ?_
          all_goals (cases x <;> simp only [nm, reduceCtorEq] at al <;> cases y <;> simp only [nm, reduceCtorEq, Option.some.injEq] at al)
          all_goals first
            | (split at al
               · rename_i bn
                 obtain ⟨rfl, rfl⟩ := bn
                 simp only [Option.some.injEq] at al
                 subst al
                 exact run_equalIn_int w n _ _ _ _ _ hu
               · cases al)
            | (subst al; exact run_equalIn_bool' w n _ _ _ hu)
            | (subst al; exact run_equalIn_string w n _ _ _ hu)
theorem Cv{P:Program}{t:TypeId}{xs ys:Array Value}{ks:List (Nat×AL)}{q:Bool}(bC:P.underlying t=some (.struct (P.fieldsOf t)))(hp:P.stoodInHeld t=false)(hk:yV P (P.fieldsOf t).toList=some ks)(dB:mx ks xs ys=some q)(w:World):
 (Op.equalIn 10000 t (.agg xs) (.agg ys)).run P w=.ok q w:=
 (run_equalIn_agg w 9999 t xs ys bC hp).trans (HP (n:=9998) w _ ks q hk dB)
theorem Tn{p:Prop}[Decidable p](h:true=!decide p):¬ p:=by
 intro hp;simp[hp] at h
theorem To{p:Prop}[Decidable p](h:false=!decide p):p:=by
 by_cases hp:p
 . exact hp
 . simp[hp] at h
theorem ud{P:Program}{f:FuncId}{R:Ending->World->Prop}{n:Nat}{E:Env}{k:List Item}{w:World}{fn:Func}{t:Tmp}{ty:TypeId}{b off sz by_:Nat}{z cs:List Value}(bC:P.funcs[f]?=some fn)(oC:fn.results=#[.cell t ty])
 (cN:mJ t E=some (ptr b off)) (a8:eu P ty=some (true,sz,by_,z)) (a':Row w b off cs) (aN:cs.length=sz) (fo:R (.returned (.agg cs.toArray)) w):hx P f R n E (.code .ret::k) w:=λa ax sr ab hk cs' =>
 ⟨_,w,{ sr.at a (.code .ret::k) with mode:=.returning },fo,.one step_ret,ab,B5 ax bC ab hk (by
  have aU:a.tmps[t]?.getD undef=.pointer (some ⟨b,off,none⟩):=by have:=ax.has t _ cN;simpa[ptr] using this
  simp[results,oC,aU,asAddr,Sem.run_bind,Result.andThen,LC a8 a' aN])⟩
end Go.aF
