/-
  What the law WorkerDeaf needs, part 1 of 7: theory, and walks through the code. Names are said short.
-/
import Derived.WalkKit
import Derived.ProofKit
import Derived.Still
import Derived.KernelRfl
import Derived.Laws.Strings
import Derived.Laws.Small
import Derived.Laws.AppendOwn
import Derived.Lib.RuneCountTail
import Derived.Lib.Bytealg
import Derived.OpenShut
import Derived.SliceStrings
import Derived.Lib.SmallJoins
import Derived.Carry
import Derived.Laws.MakeOwn
import Derived.Laws.Pointers
import Derived.Laws.StructEq
import Derived.Lib.Join
import Derived.Room.Shelf.Join48
import Derived.Shelf.SlSortCmp.NoneTotal
import Derived.Shelf.SlicesE.Compact
import Derived.Laws.BytesArg
import Derived.Laws.IdiomStrings
import Derived.Laws.Cover4
import Derived.Laws.BitsAllLaws
import Derived.MapKept
import Derived.Deep.AppendSrc
import Derived.Test.YtjideiielmlccaaGreatProg
import Derived.Ground.NamesProg
set_option linter.unusedVariables false
set_option linter.unusedSimpArgs false
set_option maxRecDepth 20000
set_option maxHeartbeats 8000000
abbrev U(n:Int):Go.Value:=.int .i64 n
abbrev ad:Go.Value:=.int .i64 0
abbrev az:Nat->Prop:=λ_=>False
theorem cS{a b:Int}(h:a=b):Go.Value.int .i64 a=.int .i64 b:=congrArg _ h
theorem DM{p:Prop}(h:p:=by(intro z cO;simp at cO)):p:=h
section
variable {p:Prop}
theorem aQ(h:p:=by kernel_rfl):p:=h
theorem bm(h:p:=by repeat(first|exact trivial|refine⟨rfl,?_⟩)):p:=h
theorem aa(h:p:=by omega):p:=h
theorem ev(h:p:=by first|(with_reducible exact hW)|(rw[<-hX];rfl)|(exfalso;omega)):p:=h
theorem uJ(h:p:=by first|(with_reducible exact ak.EJ (by exact(a'.bad k_ (by first|exact ak.Td k_|(with_reducible exact ak.Te aaH)))))|(with_reducible exact(a'.bad k_ (by first|exact ak.Td k_|(with_reducible exact ak.Te aaH))))|(with_reducible exact(a'.fin k_).1.trans (ak.EK (a'.fin k_).2))|(with_reducible exact(a'.fin k_).2)|(exfalso;omega)):p:=h
theorem bh(h:p:=by assumption):p:=h
theorem lQ(h:p:=by first|assumption|omega|(simp only[List.length_append,ib,List.length_cons,List.length_nil];omega)):p:=h
theorem am(h:p:=by first|omega|(simp only[List.length_append,List.length_cons,List.length_nil];omega)|(exfalso;omega)):p:=h
theorem e9(h:p:=by first|omega|(exfalso;omega)):p:=h
theorem ap(h:p:=by first|(simp only[List.length_append,List.length_cons,List.length_nil];omega)|(exfalso;omega)):p:=h
theorem eS(h:p:=by unfold maxLen;omega):p:=h
theorem cY(h:p:=by kernel_rfl):p:=h
theorem b2(h:p:=by decide):p:=h
theorem vG(h:p:=by first|omega|(simp only[List.length_append];omega)|(simp only[List.length_append,List.length_cons,List.length_nil];omega)):p:=h
theorem ow(h:p:=by first|assumption|exact ak.cD.HP (by decide +kernel)):p:=h
theorem dg(h:p:=by simp):p:=h
theorem dw(h:p:=by rfl):p:=h
theorem uy(h:p:=by simp only[List.length_append,List.length_cons];omega):p:=h
theorem J5(h:p:=by first|exact .inl nW|exact .inr (.inl nW)|exact .inr (.inr ⟨by assumption,by first|assumption|exact List.eq_nil_of_length_eq_zero pT⟩)):p:=h
theorem JH(h:p:=by first|(rw[ak.LZ ba (by simp[*]),List.length_append,<-ar];rfl)|(rw[ak.ED ba (by simp[*])];exact ar)|(exfalso;omega)):p:=h
theorem Qx(h:p:=by first|(rw[<-aaM.1];exact hh)|(rw[UQ n4,show aI.drop bC=l4 (dA ay) (aI.drop k) from by rw[<-oU,List.drop_drop];congr 1;omega];simp only[List.length_append];omega)|(exfalso;omega)):p:=h
theorem zY(h:p:=by first|assumption|(unfold bY;omega)|(unfold bY;decide)):p:=h
theorem G0(h:p:=by first|omega|(simp only[List.length_append,List.length_cons,List.length_nil];omega)|(simp;omega)):p:=h
theorem K3(h:p:=by first|exact a'.next k_ (ak.ado k_ (by with_reducible assumption) k_ k_) k_|(exfalso;omega)):p:=h
theorem JV(h:p:=by first|rw[oU];simp only[List.length_append,List.length_cons,List.length_nil];omega|(exfalso;omega)):p:=h
theorem sJ(h:p:=by exact Nat.zero_le _):p:=h
theorem J7(h:p:=by first|omega|(simp only[List.length_append,List.length_cons,List.length_nil];omega)):p:=h
theorem DF(h:p:=by first|omega|(simp only[List.length_take];omega)):p:=h
theorem DA(h:p:=by first|omega|(simp only[List.length_nil];omega)):p:=h
theorem Dm(h:p:=by first|(symm;assumption)|simp|(exfalso;omega)):p:=h
theorem sW(h:p:=by first|assumption):p:=h
theorem Ct(h:p:=by simp only[Bool.and_true,beq_iff_eq];omega):p:=h
theorem sG(h:p:=by first|omega|rfl):p:=h
theorem JU(h:p:=by first|rw[oU];simp only[List.length_append];omega|(exfalso;omega)):p:=h
theorem yf(h:p:=by first|rfl|simp[aH.encI]):p:=h
theorem K7(h:p:=by first|(with_reducible exact(ak.UL ba bh).1)|(with_reducible exact(ak.UL ba bh).2)|(with_reducible exact(ak.UM aw aT aa).1)|(with_reducible exact(ak.UM aw aT aa).2)|(exfalso;omega)):p:=h
theorem J6(h:p:=by intro h;rcases h with h|h|⟨h1,ah⟩;omega;omega;first|exact absurd (show false=true from h1.symm.trans nW) b2|(have:=congrArg List.length ah;simp only[List.length_nil] at this;omega)):p:=h
theorem JM(h:p:=by first|(with_reducible exact(ar.ret aa).1)|(with_reducible exact(ar.ret aa).2)|(with_reducible exact(ar.fin dG bh).1)|(with_reducible exact(ar.fin dG bh).2)|(exfalso;omega)):p:=h
theorem Ef(h:p:=by first|exact Fz aa|exact NV (PM fW B5 (Gx xk xk)) aa):p:=h
theorem JW(h:p:=by first|simp only[List.length_append];omega|(exfalso;omega)):p:=h
theorem be(h:p:=by first|(simp only[List.length_set];omega)|(exfalso;omega)):p:=h
theorem ON(h:p:=by first|omega|(simp only[List.length_append];omega)|(simp only[List.length_nil];omega)):p:=h
theorem bi(h:p:=by simp only[List.cons_append,List.nil_append,Cr,xx,List.length_cons];omega):p:=h
theorem JI(h:p:=by first|simp only[ak.within, *];simp|(exfalso;omega)):p:=h
theorem JL(h:p:=by first|simp only[ak.je, *];rfl|(exfalso;omega)):p:=h
theorem JE(h:p:=by first|simp only[ak.asked, *];simp|(exfalso;omega)):p:=h
theorem uV(h:p:=by simpa using ag):p:=h
theorem JD(h:p:=by first|simp only[ak.word, *];simp|(exfalso;omega)):p:=h
theorem JS(h:p:=by rw[<-zu.1];simp only[List.length_nil];omega):p:=h
theorem Qy(h:p:=by first|exact ao2|(simp only[List.length_append];omega)|(exfalso;omega)):p:=h
theorem FY(h:p:=by first|assumption|(symm;assumption)):p:=h
theorem Q_(h:p:=by first|assumption|exact pe.A5 Ln _ _ _|exact pe.Zt Ln _):p:=h
end
namespace Go.aH
open Go
abbrev Env:=List (Nat×Value)
def mE:Nat->Env->Option Value
 | _,[]=>none
 | i,p::r=>match Nat.beq i p.1 with
  | true=>some p.2
  | false=>mE i r
def aO(E:Env):Operand->Option Value
 | .tmp t=>mE t E
 | .const v=>some v
 | .global g=>some (.pointer (some ⟨g,0,none⟩))
 | .func f=>some (.func (.func f) #[] #[])
def Has(E:Env)(a:Act):Prop:=∀i v,mE i E=some v->a.tmps.getD i undef=v
structure Sat(n:Nat)(E:Env)(a:Act):Prop where
 size:a.tmps.size=n
 defers:a.defers=[]
 has:Has E a
def pu:Option Tmp->Value->Env->Env
 | some d,v,E=>(d,v)::E
 | none,_,E=>E
def kh(n:Nat):Option Tmp->Bool
 | some d=>Nat.blt d n
 | none=>true
theorem Sat.put{n:Nat}{E:Env}{a:Act}(h:Sat n E a){d:Option Tmp}(hd:kh n d=true)(v:Value):Sat n (pu d v E) (a.put d v):=by
 cases d with
 | none=>exact h
 | some d =>
  have abT:d<n:=Nat.lt_of_succ_le (Nat.le_of_ble_eq_true hd);refine⟨by simp[Act.put,h.size],h.defers,λi u hu=>?_⟩;simp only[pu,mE] at hu
  cases ab:Nat.beq i d with
  | true =>
   have:i=d:=Nat.eq_of_beq_eq_true ab
   subst this;simp only[ab] at hu;simp only[Option.some.injEq] at hu;subst hu;simp[Act.put,h.size,abT]
  | false =>
   simp only[ab] at hu;have dG:d≠i:=λe=>by subst e;simp[Nat.beq_refl] at ab
   have:=h.has i u hu;simpa[Act.put,Array.getElem?_setIfInBounds_ne dG] using this
theorem Has.aO{E:Env}{a:Act}(h:Has E a){x:Operand}{v:Value}(ag:aH.aO E x=some v):a.eval x=v:=by
 cases x with
 | tmp t=>exact h t v ag
 | const u=>simpa[aH.aO,Act.eval] using ag
 | global g=>simpa[aH.aO,Act.eval] using ag
 | func f=>simpa[aH.aO,Act.eval] using ag
def sub:Env->Env->Prop
 | [],_=>True
 | p::r,E=>mE p.1 E=some p.2/\sub r E
theorem R4:∀{jc E:Env},sub jc E->∀i v,mE i jc=some v->mE i E=some v
 | [],_,_,_,_,h=>by simp[mE] at h
 | p::r,E,⟨h1,ah⟩,i,v,h=>by
  simp only[mE] at h
  cases ab:Nat.beq i p.1 with
  | true =>
   have:i=p.1:=Nat.eq_of_beq_eq_true ab
   simp only[ab] at h
   simp only[Option.some.injEq] at h
   rw[this,h1,h]
  | false =>
   simp only[ab] at h
   exact R4 ah i v h
theorem Sat.sub{n:Nat}{E jc:Env}{a:Act}(h:Sat n E a)(aT:aH.sub jc E):Sat n jc a:=
 ⟨h.size,h.defers,λi v cI=>h.has i v (R4 aT i v cI)⟩
structure Mod(M:Nat->Prop)(w an:World):Prop where
 os:an.os=w.os
 tape:an.tape=w.tape
 output:an.output=w.output
 size:w.heap.size<=an.heap.size
 keep:∀(b:Nat) (o:Obj),w.heap[b]?=some o->¬ M b->an.heap[b]?=some o
abbrev Ext(w an:World):Prop:=Mod (λ_=>False) w an
theorem Mod.refl(M:Nat->Prop)(w:World):Mod M w w:=⟨rfl,rfl,rfl,Nat.le_refl _,λ_ _ h _=>h⟩
theorem Mod.trans{M:Nat->Prop}{a b c:World}(h:Mod M a b)(k:Mod M b c):Mod M a c:=
 ⟨k.os.trans h.os,k.tape.trans h.tape,k.output.trans h.output,Nat.le_trans h.size k.size,λi o ar hm=>k.keep i o (h.keep i o ar hm) hm⟩
theorem Mod.weaken{M R5:Nat->Prop}{a b:World}(h:Mod M a b)(hm:∀i,M i->i<a.heap.size->R5 i):Mod R5 a b:=
 ⟨h.os,h.tape,h.output,h.size,λi o ar aN=>h.keep i o ar (λag=>aN (hm i ag (Array.getElem?_eq_some_iff.1 ar).1))⟩
theorem Mod.then{M N:Nat->Prop}{a b c:World}(h:Mod M a b)(k:Mod N b c)(ho:∀i,N i->i<a.heap.size->M i):Mod M a c:=
 ⟨k.os.trans h.os,k.tape.trans h.tape,k.output.trans h.output,Nat.le_trans h.size k.size,
  λi o ar hm=>k.keep i o (h.keep i o ar hm) (λag=>hm (ho i ag (Array.getElem?_eq_some_iff.1 ar).1))⟩
theorem Mod.ext{M:Nat->Prop}{a b c:World}(h:Mod M a b)(k:Ext b c):Mod M a c:=h.then k (λ_ h _=>h.elim)
theorem Ext.mod{a b:World}(h:Ext a b)(M:Nat->Prop):Mod M a b:=h.weaken (λ_ h _=>h.elim)
theorem Mod.drew(M:Nat->Prop)(w:World):Mod M w w.drew:=⟨rfl,rfl,rfl,Nat.le_refl _,λ_ _ h _=>h⟩
theorem Mod.alloc(M:Nat->Prop)(w:World)(o:Obj):Mod M w (w.alloc o):=
 ⟨rfl,rfl,rfl,by simp,λb x h _=>by
  have bj:=(Array.getElem?_eq_some_iff.1 h).1
  show(w.heap.push o)[b]?=_
  rw[Array.getElem?_push,if_neg aa];exact h⟩
theorem Mod.below{w an:World}(h:Ext w an):Go.RowKit.Below w.heap.size w an:=
 ⟨h.os,h.tape,h.output,h.size,λk hk=>by
  have e:w.heap[k]?=some w.heap[k]:=by simp[hk]
  rw[e];exact h.keep k _ e (λx=>x)⟩
theorem Mod.abU{w an:World}(h:Go.RowKit.Below w.heap.size w an):Ext w an:=
 ⟨h.os,h.tape,h.output,h.size,λb o ab _=>by rw[h.block b (Array.getElem?_eq_some_iff.1 ab).1];exact ab⟩
section
variable {P:Program} {f:FuncId} {R:Ending->World->Prop} {n:Nat}
def p2(P:Program)(f:FuncId)(R:Ending->World->Prop)(k:List Item)(a:Act)(w:World):Prop:=
 ∀b:Frame,b.fn=f->b.kind=.normal->∀cs,∃e an yE,R e an/\Comes P (lone (b.at a k) cs w) (lone yE cs an) e/\yE.fn=f/\yE.leaving P an e
theorem p2.head{k ju:List Item}{a:Act}{w:World}(aT:∀(b:Frame) cs,step P (lone (b.at a k) cs w)=.next (lone (b.at a ju) cs w))
 (h:p2 P f R ju a w):p2 P f R k a w:=λb bB hk cs =>
 let ⟨e,an,yE,fm,ao,r⟩:=h b bB hk cs
 ⟨e,an,yE,fm,Comes.of_steps (.one (aT b cs)) ao,r⟩
theorem R6{c:Code}{k:List Item}{a:Act}{w:World}(h:c.wp P (λe a w=>e=.normal/\p2 P f R k a w) a w):p2 P f R (.code c::k) a w:=by
 intro b bB hk cs;obtain⟨e,qW,an,⟨rfl,a'⟩,abV⟩:=h b k cs;obtain⟨e,xn,yE,fm,ao,r⟩:=a' b bB hk cs;exact⟨e,xn,yE,fm,Comes.of_steps abV ao,r⟩
theorem abW{fn:Func}{c:Code}{args:Array Value}{w:World}(bB:P.funcs[f]?=some fn)(ab:fn.body=some c)
 (h:p2 P f R [.code c] { tmps:=args++Array.replicate (fn.ntmps-args.size) undef,defers:=[] } w):Calls P f args w R:=by
 intro cs;let b:Frame:={ (default:Frame) with fn:=f,kind:=.normal }
 have abX:Frame.enter P f args .normal =
  b.at { tmps:=args++Array.replicate (fn.ntmps-args.size) undef,defers:=[] } [.code c]:=by
  simp[Frame.enter,Frame.at,bB,ab,b]
 rw[abX];exact h b rfl rfl cs
def hs(P:Program)(f:FuncId)(R:Ending->World->Prop)(n:Nat)(E:Env)(k:List Item)(w:World):Prop:=∀a,Sat n E a->p2 P f R k a w
theorem hs.sub{E jc:Env}{k:List Item}{w:World}(h:hs P f R n jc k w)(aT:aH.sub jc E):hs P f R n E k w:=λa aw=>h a (aw.sub aT)
theorem abY{E:Env}{x y:Code}{k:List Item}{w:World}(h:hs P f R n E (.code x::.code y::k) w):hs P f R n E (.code (.seq x y)::k) w:=
 λa aw=>p2.head (λ_ _=>step_seq) (h a aw)
theorem abZ{E:Env}{k:List Item}{w:World}(h:hs P f R n E k w):hs P f R n E (.code .skip::k) w:=
 λa aw=>p2.head (λ_ _=>step_skip) (h a aw)
theorem ab0{E:Env}{id:Nat}{c:Code}{k:List Item}{w:World}(h:hs P f R n E (.code c::.inBlock id::k) w):hs P f R n E (.code (.block id c)::k) w:=
 λa aw=>p2.head (λ_ _=>step_block) (h a aw)
theorem ab1{E:Env}{id:Nat}{k:List Item}{w:World}(h:hs P f R n E k w):hs P f R n E (.inBlock id::k) w:=
 λa aw=>p2.head (λ_ _=>step_inBlock) (h a aw)
theorem ab2{E:Env}{id:Nat}{k ju:List Item}{w:World}(hk:exitTo id k=some ju)(h:hs P f R n E ju w):hs P f R n E (.code (.exit id)::k) w:=
 λa aw=>p2.head (λ_ _=>step_exit hk) (h a aw)
theorem ab3{E:Env}{c:Operand}{x y:Code}{k:List Item}{w:World}(ao:aO E c=some (.bool true))(h:hs P f R n E (.code x::k) w):hs P f R n E (.code (.cond c x y)::k) w:=
 λa aw=>p2.head (λ_ _=>step_cond (t:=true) (aw.has.aO ao)) (h a aw)
theorem ab4{E:Env}{c:Operand}{x y:Code}{k:List Item}{w:World}(ao:aO E c=some (.bool false))(h:hs P f R n E (.code y::k) w):hs P f R n E (.code (.cond c x y)::k) w:=
 λa aw=>p2.head (λ_ _=>step_cond (t:=false) (aw.has.aO ao)) (h a aw)
theorem ab5{E:Env}{c:Code}{k:List Item}{w:World}(h:hs P f R n E (.code c::.inLoop c::k) w):hs P f R n E (.inLoop c::k) w:=
 λa aw=>p2.head (λ_ _=>step_inLoop) (h a aw)
theorem dW{E:Env}{c:Code}{k:List Item}{w:World}(I:Nat->Env->World->Prop)
 (bK:∃m jc,I m jc w/\aH.sub jc E)
 (a':∀m E w,I m E w->(∀sY jc an,I sY jc an->sY<m->hs P f R n jc (.inLoop c::k) an)->hs P f R n E (.code c::.inLoop c::k) w) :
 hs P f R n E (.code (.loop c)::k) w:=by
 have key:∀m E w,I m E w->hs P f R n E (.code c::.inLoop c::k) w:=by
  intro m
  induction m using Nat.strongRecOn with
  | _ m b'=>exact λE w mX=>a' m E w mX λsY jc an ab6 hL=>ab5 (b' sY hL jc an ab6)
 obtain⟨m,jc,mX,aT⟩:=bK;exact λa aw=>p2.head (λ_ _=>step_loop) (key m jc w mX a (aw.sub aT))
theorem Lr{E:Env}{x:Item}{k:List Item}{w:World}(J:Env->World->Prop)
 (hk:∀E w,J E w->hs P f R n E k w) (ag:(∀E w,J E w->hs P f R n E k w)->hs P f R n E (x::k) w):hs P f R n E (x::k) w:=ag hk
theorem B'{n:Nat}{E:Env}{a:Act}{b:Frame}{k:List Item}{w:World}{fn:Func}{v:Value}(aw:Sat n E a)(bB:P.funcs[f]?=some fn)(ab:b.fn=f)(hk:b.kind=.normal)
 (a':(results fn a.tmps).run P w=.ok v w):Frame.leaving P { b.at a k with mode:=.returning } w (.returned v):=
 ⟨rfl,aw.defers,hk,fn,by show P.funcs[b.fn]?=_;rw[ab];exact bB,a'⟩
theorem aM{E:Env}{k:List Item}{w:World}{fn:Func}{t:Tmp}{v:Value}(bB:P.funcs[f]?=some fn)(oD:fn.results=#[.tmp t])
 (cI:mE t E=some v) (fm:R (.returned v) w):hs P f R n E (.code .ret::k) w:=λa aw b ab hk cs =>
 ⟨.returned v,w,{ b.at a (.code .ret::k) with mode:=.returning },fm,.one step_ret,ab,B' aw bB ab hk (by
  rw[results_tmp oD,aw.has t v cI])⟩
theorem cJ{E:Env}{k:List Item}{w:World}{fn:Func}{t u:Tmp}{v x:Value}(bB:P.funcs[f]?=some fn)(oD:fn.results=#[.tmp t,.tmp u])
 (cI:mE t E=some v) (ag:mE u E=some x) (fm:R (.returned (.tuple #[v,x])) w):hs P f R n E (.code .ret::k) w:=λa aw b ab hk cs =>
 ⟨.returned _,w,{ b.at a (.code .ret::k) with mode:=.returning },fm,.one step_ret,ab,B' aw bB ab hk (by
  rw[results_tmp2 oD,aw.has t v cI,aw.has u x ag])⟩
theorem kN{E:Env}{w:World}{fn:Func}(bB:P.funcs[f]?=some fn)(oD:fn.results=#[])
 (fm:R (.returned (.tuple #[])) w):hs P f R n E [] w:=λa aw b ab hk cs =>
 ⟨.returned _,w,{ b.at a [] with mode:=.returning },fm,.one step_end,ab,B' aw bB ab hk (results_none oD _ _ _)⟩
theorem tG{E:Env}{k:List Item}{w:World}{fn:Func}(bB:P.funcs[f]?=some fn)(oD:fn.results=#[])
 (fm:R (.returned (.tuple #[])) w):hs P f R n E (.code .ret::k) w:=λa aw b ab hk cs =>
 ⟨.returned _,w,{ b.at a (.code .ret::k) with mode:=.returning },fm,.one step_ret,ab,B' aw bB ab hk (results_none oD _ _ _)⟩
end
section
variable {P:Program} {f:FuncId} {R:Ending->World->Prop} {n:Nat}
def want(n:Nat)(ops:Array Oper)(E:Env):Option (Nat×Bool)->Option Bool
 | none=>some true
 | some (j,b)=>match (ops[j]?).bind (·.dst) with
  | some d=>match mE d E with
   | some (.bool c)=>match Nat.blt d n with
    | true=>some (c==b)
    | false=>none
   | some (.tuple _)=>some false
   | _=>none
  | none=>none
theorem Ca{ops:Array Oper}{E:Env}{a:Act}(aT:Sat n E a){o:Oper}{b:Bool}(h:want n ops E o.guard=some b):
 Region.wanted o (yielded ops a.tmps)=b:=by
 unfold Region.wanted
 cases aU:o.guard with
 | none=>simpa[want,aU] using h
 | some ab7 =>
  obtain⟨j,c⟩:=ab7;simp only[aU,want] at h
  cases hd:(ops[j]?).bind (·.dst) with
  | none=>simp[hd] at h
  | some d =>
   simp only[hd] at h
   cases bj:mE d E with
   | none=>simp[bj] at h
   | some v =>
    rw[bj] at h
    cases v<;>simp only[reduceCtorEq] at h
    case tuple vs =>
     have cI:=aT.has d _ bj
     have aD:yielded ops a.tmps j=none:=by
      unfold yielded
      rw[hd]
      simp only[Option.bind_some]
      cases a8:a.tmps[d]? with
      | none=>rfl
      | some u =>
       have:u=.tuple vs:=by
        rw[<-cI];simp[a8]
       rw[this]
     simp only[aD];simp only[Option.some.injEq] at h;subst h
     cases c<;>rfl
    rename_i x
    cases hL:Nat.blt d n with
    | false=>simp[hL] at h
    | true =>
     simp only[hL,Option.some.injEq] at h
     have ab8:d<a.tmps.size:=by
      rw[aT.size];exact Nat.lt_of_succ_le (Nat.le_of_ble_eq_true hL)
     have cI:=aT.has d _ bj
     have aD:yielded ops a.tmps j=some x:=by
      unfold yielded
      rw[hd]
      simp only[Option.bind_some]
      have:a.tmps[d]?=some (.bool x):=by
       rw[<-cI];simp[ab8]
      rw[this]
     simp only[aD];subst h
     cases x<;>cases c<;>rfl
def bx(P:Program)(o:Oper)(E:Env)(C:World->Prop)(v:Value):Prop:=
 ∀a,Has E a->∀w,C w->(execOp a.eval o).run P w=.ok (.value v) w
def out(P:Program)(K:Value->World->Prop):Result Next->Prop
 | .ok (.value v) an=>K v an
 | .ok .skip an=>K undef an
 | .ok (.enter f args) an=>Calls P f args an (λe xn=>∃v,e=.returned v/\K v xn)
 | .ok (.row row args) an=>Rows P row args an K
 | _=>False
theorem Al{K yF:Value->World->Prop}{r:Result Next}(h:∀v w,K v w->yF v w)(hD:out P K r):out P yF r:=by
 cases r with
 | ok x an =>
  cases x<;>simp only[out] at hD ⊢<;>first
   | exact h _ _ hD
   | exact Calls.mono hD (λe xn ⟨v,he,hk⟩=>⟨v,he,h _ _ hk⟩)
   | exact Rows.mono hD (λv xn hk=>h _ _ hk)
 | halt x an=>simp only[out] at hD
theorem R7{K : Value -> World -> Prop}{r : Result Next}(hD : out P K r): ∃v w, K v w := by
  cases r with
  | ok x an =>
   cases x <;> simp only[out] at hD <;> first
      | exact⟨_, _, hD⟩
      | (obtain⟨e, xn, yE, ⟨v, _, hk⟩, _⟩ := hD []
         exact⟨_, _, hk⟩)
      | (obtain⟨v, xn, hk, _⟩ := hD default []
         exact⟨_, _, hk⟩)
  | halt x an => simp only[out] at hD
theorem R8{o:Oper}{a:Act}{K:Value->World->Prop}{next:Act->World->Prop}{Q:Exit->Act->World->Prop}{r:Result Next}
 (h:∀v w,K v w->next (a.put o.dst v) w) (hD:out P K r):o.upon P a next Q r:=by
 cases r with
 | ok x an =>
  cases x<;>simp only[out] at hD<;>simp only[Oper.upon]<;>first
   | exact h _ _ hD
   | exact Calls.mono hD (λe xn ⟨v,he,hk⟩=>by subst he;exact h _ _ hk)
   | exact Rows.mono hD (λv xn hk=>h _ _ hk)
 | halt x an=>simp only[out] at hD
def gB(P:Program)(o:Oper)(E:Env)(w:World)(K:Value->World->Prop):Prop:=
 ∀a,Has E a->out P K ((execOp a.eval o).run P w)
theorem gB.mono{o:Oper}{E:Env}{w:World}{K yF:Value->World->Prop}(h:gB P o E w K)(hk:∀v an,K v an->yF v an):gB P o E w yF:=
 λa aw=>Al hk (h a aw)
def fJ(P:Program)(f:FuncId)(R:Ending->World->Prop)(n:Nat)(ops:Array Oper)(l:List Oper)(E:Env)(k:List Item)(w:World):Prop:=
 ∀a,Sat n E a->wpList P ops (λe a w=>e=.normal/\p2 P f R k a w) l a w
theorem ab9{id:Nat}{l:List Oper}{E:Env}{k:List Item}{w:World}(h:fJ P f R n l.toArray l E k w):hs P f R n E (.code (.region id l.toArray false)::k) w:=
 λa aw=>R6 (wp_region_lit (h a aw))
theorem fJ.nil{ops:Array Oper}{E:Env}{k:List Item}{w:World}(h:hs P f R n E k w):fJ P f R n ops [] E k w:=λa aw=>⟨rfl,h a aw⟩
theorem fJ.q{ops:Array Oper}{o:Oper}{l:List Oper}{E:Env}{k:List Item}{w:World}{v:Value}(dH:bx P o E (λan=>an=w) v)
 (hw:want n ops E o.guard=some true) (hd:kh n o.dst=true) (h:fJ P f R n ops l (pu o.dst v E) k w):fJ P f R n ops (o::l) E k w:=by
 intro a aw;refine wpList_step λK eR=>?_
 rw[Ca aw hw,if_pos rfl];unfold Oper.wp;rw[dH a aw.has w rfl];exact eR _ _ (h _ (aw.put hd v))
theorem fJ.ew{ops:Array Oper}{o:Oper}{l:List Oper}{E:Env}{k:List Item}{w:World}
 (hw:want n ops E o.guard=some false) (hd:kh n o.dst=true) (h:fJ P f R n ops l (pu o.dst undef E) k w):fJ P f R n ops (o::l) E k w:=by
 intro a aw;refine wpList_step λK eR=>?_
 rw[Ca aw hw,if_neg dg];exact eR _ _ (h _ (aw.put hd undef))
theorem fJ.act{ops:Array Oper}{o:Oper}{l:List Oper}{E:Env}{k:List Item}{w:World}
 (hw:want n ops E o.guard=some true) (hd:kh n o.dst=true) (aw:gB P o E w (λv an=>fJ P f R n ops l (pu o.dst v E) k an)):fJ P f R n ops (o::l) E k w:=by
 intro a Ls;refine wpList_step λK eR=>?_
 rw[Ca Ls hw,if_pos rfl];exact R8 (λv an cI=>eR _ _ (cI _ (Ls.put hd v))) (aw a Ls.has)
end
end Go.aH
namespace Go.aH
open Go
section
variable {P:Program} {ops:Array Oper} {C:World->Prop} {A:Nat->Bool} {Z:Nat}
def vX(ops:Array Oper)(m:Array Nat):Bool:=
 (List.range ops.size).all λj=>match ops[j]? with
  | some o=>m.getD j 0==o.after.foldl (λs e=>if Region.binds .any e then s ||| 2 ^ e.on ||| m.getD e.on 0 else s) 0
  | none=>true
def tH(m:Array Nat)(dK:Array Bool):Prop:=∀j k,dK.getD j false=true->(m.getD j 0).testBit k=true->dK.getD k false=true
theorem R9(m:Array Nat)(k:Nat):∀(l:List Edge) (s:Nat),(l.foldl (λs e=>if Region.binds .any e then s ||| 2 ^ e.on ||| m.getD e.on 0 else s) s).testBit k=true ->
 s.testBit k=true\/∃e∈l,Region.binds .any e=true/\(e.on=k\/(m.getD e.on 0).testBit k=true)
 | [],s,h=>.inl h
 | e::l,s,h=>by
  rcases R9 m k l _ h with h|⟨nD,Lt,h⟩
  . by_cases ab:Region.binds .any e=true
    . simp only[ab,if_true,Nat.testBit_or,Bool.or_eq_true] at h
      rcases h with (h|h)|h
      . exact .inl h
      . refine .inr ⟨e,by simp,ab,.inl ?_⟩
        rw[Nat.testBit_two_pow] at h
        simpa using h
      . exact .inr ⟨e,by simp,ab,.inr h⟩
    . simp only[ab] at h
      exact .inl h
  . exact .inr ⟨nD,by simp[Lt],h⟩
theorem Cb{m:Array Nat}{dK:Array Bool}(hM:vX ops m=true)(hd:tH m dK){j:Nat}(bo:j∈Region.ready .any ops dK){k:Nat}(hk:(m.getD j 0).testBit k=true):dK.getD k false=true:=by
 obtain⟨_,o,eh,fV⟩:=mem_ready.1 bo;have hL:j<ops.size:=(Array.getElem?_eq_some_iff.1 eh).1;have h1:=List.all_eq_true.1 hM j (List.mem_range.2 hL);simp only[eh,beq_iff_eq] at h1;rw[h1,<-Array.foldl_toList] at hk;rcases R9 m k _ _ hk with h|⟨e,he,ab,h⟩
 . simp at h
 . have bj:=fV e (Array.mem_toList_iff.1 he) ab;rcases h with rfl|h
   . exact bj
   . exact hd _ _ bj h
theorem ab_{dK:Array Bool}{i j:Nat}(h:(dK.setIfInBounds i true).getD j false=true):j=i\/dK.getD j false=true:=by
 by_cases mY:i=j
 . exact .inl mY.symm
 . rw[getD_set_ne false mY] at h;exact .inr h
theorem tH.set{m:Array Nat}{dK:Array Bool}(hM:vX ops m=true)(hd:tH m dK){j:Nat}(bo:j∈Region.ready .any ops dK):tH m (dK.setIfInBounds j true):=by
 intro a k aw hk;rcases ab_ aw with rfl|aw
 . exact getD_set_true (Cb hM hd bo hk)
 . exact getD_set_true (hd a k aw hk)
theorem R_{dK:Array Bool}{i:Nat}(h:dK.getD i true=false):dK.getD i false=false:=by
 rcases Nat.lt_or_ge i dK.size with gN|gN
 . simpa[gN] using h
 . simp[Array.getElem?_eq_none gN] at h
def Am(ops:Array Oper)(m:Array Nat)(Z:Nat):Prop:=∀k,Z<ops.size->k<ops.size->k≠Z->(m.getD Z 0).testBit k=true
theorem yG{dK:Array Bool}{j:Nat}(bo:j∈Region.ready .any ops dK):j<ops.size:=by
 obtain⟨_,o,eh,_⟩:=mem_ready.1 bo;exact(Array.getElem?_eq_some_iff.1 eh).1
theorem Lu{dK:Array Bool}{k:Nat}(h:dK.getD k false=true):dK.getD k true=true:=by
 rcases Nat.lt_or_ge k dK.size with gN|gN
 . simpa[gN] using h
 . simp[Array.getElem?_eq_none gN] at h
theorem Lv{m:Array Nat}{dK:Array Bool}(hM:vX ops m=true)(cO:Am ops m Z)(hd:tH m dK)(bo:Z∈Region.ready .any ops dK){k:Nat}(hk:k<ops.size)(dG:k≠Z):dK.getD k true=true:=
 Lu (Cb hM hd bo (cO k (yG bo) hk dG))
theorem R'{m:Array Nat}{dK:Array Bool}(hM:vX ops m=true)(cO:Am ops m Z)(hd:tH m dK)(bo:Z∈Region.ready .any ops dK):Region.ready .any ops (dK.setIfInBounds Z true)=[]:=by
 cases a':Region.ready .any ops (dK.setIfInBounds Z true) with
 | nil=>rfl
 | cons a l =>
  exfalso;have aw:a∈Region.ready .any ops (dK.setIfInBounds Z true):=(by rw[a'];simp);have hL:=yG aw;have h1:=(mem_ready.1 aw).1;by_cases Lw:a=Z
  . subst Lw;have vY:=(mem_ready.1 bo).1
    have dI:a<dK.size:=by
     rcases Nat.lt_or_ge a dK.size with h|h
     . exact h
     . simp[Array.getElem?_eq_none h] at vY
    simp[dI] at h1
  . rw[getD_set_ne true (Ne.symm Lw)] at h1;rw[Lv hM cO hd bo hL Lw] at h1;cases h1
def Sa(ops : Array Oper)(m : Array Nat)(A : Nat -> Bool)(dK : Array Bool)(i : Nat): Bool :=
  (List.range ops.size).all λj => j == i || dK.getD j true || (m.getD j 0).testBit i ||
    (match ops[i]?, ops[j]? with
     | some iY, some ik => iY.apart ops ik && !(A i && A j)
     | _, _ => true)
def Cc(ops:Array Oper)(m:Array Nat)(A:Nat->Bool):Nat->Nat->Array Bool->Bool
 | 0,_,dK=>(Region.ready .any ops dK).isEmpty
 | fuel+1,k,dK=>(Region.ready .any ops dK).contains k && Sa ops m A dK k && Cc ops m A fuel (k+1) (dK.setIfInBounds k true)
def Lx(ops:Array Oper)(m:Array Nat)(Z:Nat):Bool:=Nat.ble ops.size Z || (List.range ops.size).all λk=>k==Z || (m.getD Z 0).testBit k
theorem ab'{m:Array Nat}(h:Lx ops m Z=true):Am ops m Z:=λk cO hk dG=>by
 unfold Lx at h
 rcases Bool.or_eq_true _ _▸h with h|h
 . have:=Nat.le_of_ble_eq_true h;omega
 . have:=List.all_eq_true.1 h k (List.mem_range.2 hk)
   simp only[Bool.or_eq_true,beq_iff_eq] at this
   exact this.resolve_left dG
def Cd(ops:Array Oper)(A:Nat->Bool)(Z:Nat):Bool:=
 Lx ops (Region.before ops) Z && Region.noSelect ops && vX ops (Region.before ops) && Cc ops (Region.before ops) A ops.size 0 (Array.replicate ops.size false)
theorem aca{m:Array Nat}{dK:Array Bool}{i:Nat}{iY:Oper}(ar:ops[i]?=some iY)(h:Sa ops m A dK i=true):
 ∀j ik,ops[j]?=some ik->j≠i->dK.getD j true=false->(m.getD j 0).testBit i=false->iY.apart ops ik=true/\(A i && A j)=false:=by
 intro j ik bo dG bj hm;have h1:=List.all_eq_true.1 h j (List.mem_range.2 (Array.getElem?_eq_some_iff.1 bo).1);simp only[ar,bo,bj,hm,Bool.or_false,Bool.or_eq_true,beq_iff_eq,Bool.and_eq_true,Bool.not_eq_true'] at h1;rcases h1 with h1|h1
 . exact absurd h1 dG
 . exact h1
end
end Go.aH
namespace Go.py
open Go Go.aH
def tI(N:Nat->Bool)(eF:World)(C:World->Prop)(i:Nat)(w:World):Prop:=if N i=true then w=eF else C w
def J(ops:Array Oper)(N:Nat->Bool)(eF:World)(C:World->Prop)(dK:Array Bool)(w:World):Prop:=C w/\(w=eF\/∀i,N i=true->i<ops.size->dK.getD i true=true)
def uQ(ops:Array Oper)(m:Array Nat)(A N:Nat->Bool):Bool:=(List.range ops.size).all λj=>!A j || (List.range ops.size).all λi=>!N i || (!A i && (m.getD j 0).testBit i)
theorem Sb{ops:Array Oper}{m:Array Nat}{A N:Nat->Bool}(h:uQ ops m A N=true){i j:Nat}(ar:i<ops.size)(bo:j<ops.size)(bf:A j=true)(ho:N i=true):A i=false/\(m.getD j 0).testBit i=true:=by
 have h1:=List.all_eq_true.1 h j (List.mem_range.2 bo);simp only[bf,Bool.not_true,Bool.false_or] at h1;have ah:=List.all_eq_true.1 h1 i (List.mem_range.2 ar);simp only[ho,Bool.not_true,Bool.false_or,Bool.and_eq_true,Bool.not_eq_true'] at ah;exact ah
theorem J.set{ops:Array Oper}{N:Nat->Bool}{eF w:World}{C:World->Prop}{dK:Array Bool}{k:Nat}(h:J ops N eF C dK w):J ops N eF C (dK.setIfInBounds k true) w:=by
 refine⟨h.1,h.2.imp id λaw i ho ar=>?_⟩;have:=aw i ho ar;by_cases hk:k=i
 . subst hk;simp only[Array.getD_eq_getD_getElem?,Array.getElem?_setIfInBounds];split<;>rename_i bK<;>simp_all
   split<;>simp_all
 . rw[getD_set_ne true hk];exact this
section
variable {P:Program} {ops:Array Oper} {C:World->Prop} {A N:Nat->Bool} {Z:Nat} {eF:World}
def mZ(P:Program)(ops:Array Oper)(C:World->Prop)(A N:Nat->Bool)(eF:World)(Z:Nat)(i:Nat)(K:Act->World->Prop)(a:Act)(w:World):Prop:=
 match ops[i]? with
 | none=>K a w
 | some o =>
  if Region.wanted o (yielded ops a.tmps)=true then
   if A i=true then out P (λv an=>(i=Z\/C an)/\K (a.put o.dst v) an) ((execOp a.eval o).run P w)
   else ∃v,(∀an,tI N eF C i an->(execOp a.eval o).run P an=.ok (.value v) an)/\K (a.put o.dst v) w
  else K (a.put o.dst undef) w
def wd(P:Program)(ops:Array Oper)(C:World->Prop)(A N:Nat->Bool)(eF:World)(Z:Nat)(Q:Act->World->Prop):List Nat->Act->World->Prop
 | [],a,w=>Q a w
 | i::r,a,w=>mZ P ops C A N eF Z i (wd P ops C A N eF Z Q r) a w
def tJ(P:Program)(ops:Array Oper)(C:World->Prop)(A N:Nat->Bool)(eF:World)(Z:Nat)(Q:Act->World->Prop):Nat->Array Bool->Act->World->Prop
 | 0,dK,a,w=>Region.ready .any ops dK=[]/\Q a w
 | fuel+1,dK,a,w =>
  (Region.ready .any ops dK=[]->Q a w) /\
  ∀i∈Region.ready .any ops dK,mZ P ops C A N eF Z i (tJ P ops C A N eF Z Q fuel (dK.setIfInBounds i true)) a w
def vZ(P:Program)(ops:Array Oper)(C:World->Prop)(A N:Nat->Bool)(eF:World)(i:Nat)(o:Oper)(v:Value)(a:Act):Prop:=
 (Region.wanted o (yielded ops a.tmps)=true/\A i=false/\∀an,tI N eF C i an->(execOp a.eval o).run P an=.ok (.value v) an) \/
 (Region.wanted o (yielded ops a.tmps)=false/\v=undef)
theorem vZ.mZ{i:Nat}{o:Oper}{v:Value}{a:Act}{w:World}{K:Act->World->Prop}(ar:ops[i]?=some o)(aD:vZ P ops C A N eF i o v a)(h:K (a.put o.dst v) w):mZ P ops C A N eF Z i K a w:=by
 unfold py.mZ;simp only[ar];rcases aD with ⟨hw,bf,cI⟩|⟨hw,rfl⟩
 . simp only[hw,bf,if_true,Bool.false_eq_true,if_false];exact⟨v,cI,h⟩
 . simp only[hw,Bool.false_eq_true,if_false];exact h
theorem vZ.of_same{i:Nat}{o:Oper}{v:Value}{a qW:Act}(aD:vZ P ops C A N eF i o v a)(he:execOp qW.eval o=execOp a.eval o)
 (hw:Region.wanted o (yielded ops qW.tmps)=Region.wanted o (yielded ops a.tmps)):vZ P ops C A N eF i o v qW:=by
 unfold vZ at *;rw[he,hw];exact aD
theorem acb{i j:Nat}{iY ik:Oper}{v:Value}(bo:ops[j]?=some ik)(Ly:iY.apart ops ik=true)
 (Ho:∀cs b,iY.op≠.select cs b) (Lz:∀cs b,ik.op≠.select cs b) {K:Act->World->Prop} {a:Act} {w:World}
 (aD:vZ P ops C A N eF i iY v a) (h:mZ P ops C A N eF Z j K (a.put iY.dst v) w) :
 mZ P ops C A N eF Z j (λqW an=>vZ P ops C A N eF i iY v qW/\K (qW.put iY.dst v) an) a w:=by
 obtain⟨h1,ah,aB⟩:=Oper.apart_spec Ly
 have keep:∀u,vZ P ops C A N eF i iY v (a.put ik.dst u):=λu =>
  aD.of_same (execOp_put iY Ho a ik.dst u aB) (wanted_put iY a ik.dst u aB)
 unfold mZ at *;simp only[bo] at *;rw[wanted_put ik a iY.dst v h1,execOp_put ik Lz a iY.dst v h1] at h;split
 . rename_i hw;simp only[hw,if_true] at h;split
   . rename_i bf;simp only[bf,if_true] at h;exact Al (λu an hu=>⟨hu.1,keep u,by rw[<-Act.put_comm a v u ah];exact hu.2⟩) h
   . rename_i bf;simp only[bf] at h;obtain⟨u,hu,hk⟩:=h;exact⟨u,hu,keep u,by rw[<-Act.put_comm a v u ah];exact hk⟩
 . rename_i hw;simp only[hw] at h;exact⟨keep _,by rw[<-Act.put_comm a v undef ah];exact h⟩
theorem acd{i:Nat}{K yF:Act->World->Prop}{J':World->Prop}{a:Act}{w:World}(dG:i≠Z)(h:∀a w,J' w->K a w->yF a w)(hC:J' w)(ace:A i=true->∀an,C an->J' an)(hD:mZ P ops C A N eF Z i K a w):mZ P ops C A N eF Z i yF a w:=by
 unfold mZ at *;split
 . exact h _ _ hC (by simpa[*] using hD)
 . rename_i o eh;simp only[eh] at hD;split
   . rename_i hw;simp only[hw,if_true] at hD;split
     . rename_i bf;simp only[bf,if_true] at hD;exact Al (λv an cI=>⟨cI.1,h _ _ (ace bf _ (cI.1.resolve_left dG)) cI.2⟩) hD
     . rename_i bf;simp only[bf] at hD;obtain⟨v,h1,ah⟩:=hD;exact⟨v,h1,h _ _ hC ah⟩
   . rename_i hw;simp only[hw] at hD;exact h _ _ hC hD
theorem J.act{m:Array Nat}(hM:vX ops m=true)(nE:uQ ops m A N=true){dK:Array Bool}(hd:tH m dK){j:Nat}(bo:j∈Region.ready .any ops dK)(bf:A j=true){an:World}(hC:C an):J ops N eF C (dK.setIfInBounds j true) an:=by
 refine⟨hC,.inr λi ho ar=>?_⟩;obtain⟨Hp,ab⟩:=Sb nE ar (yG bo) bf ho;have:=Lu (Cb hM hd bo ab);by_cases iZ:j=i
 . subst iZ;rw[bf] at Hp;cases Hp
 . rw[getD_set_ne true iZ];exact this
theorem J.acf{dK:Array Bool}{w:World}(h:J ops N eF C dK w){i:Nat}(ar:i∈Region.ready .any ops dK):tI N eF C i w:=by
 unfold tI;split
 . rename_i ho;rcases h.2 with e|aw
   . exact e
   . have h1:=aw i ho (yG ar);rw[(mem_ready.1 ar).1] at h1;cases h1
 . exact h.1
theorem Em{m:Array Nat}(hM:vX ops m=true)(nE:uQ ops m A N=true)(cO:Am ops m Z){Q:Act->World->Prop}{Sc:Exit->Act->World->Prop}(Ce:∀a w,Q a w->Sc .normal a w):∀(fuel:Nat) (dK:Array Bool) (a:Act) (w:World),(J ops N eF C dK w\/Region.ready .any ops dK=[])->tH m dK ->
 tJ P ops C A N eF Z Q fuel dK a w->wpAny P .any ops Sc fuel dK a w
 | 0,_,_,_,_,_,h=>⟨h.1,Ce _ _ h.2⟩
 | fuel+1,dK,a,w,hC,m_,h=>⟨λbK=>Ce _ _ (h.1 bK),λi ar=>by
  have Cf:J ops N eF C dK w:=by
   rcases hC with h|h
   . exact h
   . rw[h] at ar;cases ar
  have Cg:=m_.set hM ar
  have ah:=h.2 i ar
  unfold mZ at ah
  unfold wpOp
  split
  . rename_i eh
    simp only[eh] at ah
    exact Em hM nE cO Ce fuel _ _ _ (.inl Cf.set) Cg ah
  . rename_i o eh
    simp only[eh] at ah
    split
    . rename_i hw
      simp only[hw,if_true] at ah
      refine .inl ?_
      split at ah
      . rename_i Hp
        refine R8 (λv an cI=>Em hM nE cO Ce fuel _ _ _ ?_ Cg cI.2) ah
        rcases cI.1 with e|e
        . subst e;exact .inr (R' hM cO m_ ar)
        . exact .inl (J.act hM nE m_ ar Hp e)
      . obtain⟨v,aB,bE⟩:=ah
        unfold Oper.wp
        rw[aB w (Cf.acf ar)]
        exact Em hM nE cO Ce fuel _ _ _ (.inl Cf.set) Cg bE
    . rename_i hw
      simp only[hw] at ah
      exact Em hM nE cO Ce fuel _ _ _ (.inl Cf.set) Cg ah⟩
theorem Sd{m:Array Nat}(hM:vX ops m=true)(nE:uQ ops m A N=true)(cO:Am ops m Z){Q:Act->World->Prop}{i:Nat}{iY:Oper}{v:Value}(ar:ops[i]?=some iY)(En:∀(j:Nat) (o:Oper) cs b,ops[j]?=some o->o.op≠.select cs b):
 ∀(fuel:Nat) (dK:Array Bool) (a:Act) (w:World),J ops N eF C dK w->tH m dK ->
  (∀j ik,ops[j]?=some ik->j≠i->dK.getD j true=false->(m.getD j 0).testBit i=false->iY.apart ops ik=true) ->
  i∈Region.ready .any ops dK->vZ P ops C A N eF i iY v a ->
  tJ P ops C A N eF Z Q fuel (dK.setIfInBounds i true) (a.put iY.dst v) w->tJ P ops C A N eF Z Q (fuel+1) dK a w:=by
 intro fuel
 induction fuel with
 | zero =>
  intro dK a w hC _ _ a' aD H;refine⟨λh=>(by rw[h] at a';cases a'),λj bo=>?_⟩;by_cases iZ:j=i
  . subst iZ;exact aD.mZ ar H
  . have:=ready_mono bo iZ;rw[H.1] at this;cases this
 | succ fuel b' =>
  intro dK a w hC m_ Eo a' aD H;refine⟨λh=>(by rw[h] at a';cases a'),λj bo=>?_⟩;by_cases iZ:j=i
  . subst iZ;exact aD.mZ ar H
  . have h1:=H.2 j (ready_mono bo iZ);obtain⟨An,ik,xo,fV⟩:=mem_ready.1 bo
    have LA:(m.getD j 0).testBit i=false:=by
     cases ab:(m.getD j 0).testBit i with
     | false=>rfl
     | true =>
      have ah:=Cb hM m_ bo ab
      rw[R_ (mem_ready.1 a').1] at ah
      cases ah
    have ah:=acb xo (Eo j ik xo iZ An LA) (λcs b=>En i iY cs b ar) (λcs b=>En j ik cs b xo) aD h1
    have Hq:∀k ok,ops[k]?=some ok->k≠i->(dK.setIfInBounds j true).getD k true=false ->
     (m.getD k 0).testBit i=false->iY.apart ops ok=true:=λk ok hk n9 Ep fW=>by
     refine Eo k ok hk n9 ?_ fW
     by_cases n_:j=k
     . subst n_;exact An
     . rw[getD_set_ne true n_] at Ep;exact Ep
    have acg:j≠Z:=λe=>by
     subst e
     have c6:=Lv hM cO m_ bo (yG a') (Ne.symm iZ)
     rw[(mem_ready.1 a').1] at c6;cases c6
    refine acd (J':=J ops N eF C (dK.setIfInBounds j true)) acg (λqW an Cf aB=>b' (dK.setIfInBounds j true) qW an Cf (m_.set hM bo) Hq (ready_mono a' (Ne.symm iZ)) aB.1 ?_) hC.set (λHr an ao=>J.act hM nE m_ bo Hr ao) ah;rw[Array.setIfInBounds_comm _ _ iZ];exact aB.2
theorem ach{m:Array Nat}(hM:vX ops m=true)(nE:uQ ops m A N=true)(cO:Am ops m Z){Q:Act->World->Prop}{i:Nat}{iY:Oper}(ar:ops[i]?=some iY)(bf:A i=true)(En:∀(j:Nat) (o:Oper) cs b,ops[j]?=some o->o.op≠.select cs b):
 ∀(fuel:Nat) (dK:Array Bool) (a:Act) (w:World),J ops N eF C dK w->tH m dK ->
  (∀j ik,ops[j]?=some ik->j≠i->dK.getD j true=false->(m.getD j 0).testBit i=false->iY.apart ops ik=true/\A j=false) ->
  i∈Region.ready .any ops dK->Region.wanted iY (yielded ops a.tmps)=true ->
  out P (λv an=>(i=Z\/C an)/\tJ P ops C A N eF Z Q fuel (dK.setIfInBounds i true) (a.put iY.dst v) an) ((execOp a.eval iY).run P w)->tJ P ops C A N eF Z Q (fuel+1) dK a w:=by
 intro fuel
 induction fuel with
 | zero =>
  intro dK a w hC _ _ a' hw H;refine⟨λh=>(by rw[h] at a';cases a'),λj bo=>?_⟩;by_cases iZ:j=i
  . subst iZ;unfold mZ;simp only[ar,hw,bf,if_true];exact H
  . obtain⟨v,an,_,hk⟩:=R7 H;have:=ready_mono bo iZ;rw[hk.1] at this;cases this
 | succ fuel b' =>
  intro dK a w hC m_ Eo a' hw H;refine⟨λh=>(by rw[h] at a';cases a'),λj bo=>?_⟩;by_cases iZ:j=i
  . subst iZ;unfold mZ;simp only[ar,hw,bf,if_true];exact H
  . obtain⟨An,ik,xo,fV⟩:=mem_ready.1 bo
    have LA:(m.getD j 0).testBit i=false:=by
     cases ab:(m.getD j 0).testBit i with
     | false=>rfl
     | true =>
      have ah:=Cb hM m_ bo ab
      rw[R_ (mem_ready.1 a').1] at ah
      cases ah
    obtain⟨Ly,Hr⟩:=Eo j ik xo iZ An LA;obtain⟨Hs,LB,Er⟩:=Oper.apart_spec Ly
    have Hq:∀k ok,ops[k]?=some ok->k≠i->(dK.setIfInBounds j true).getD k true=false ->
     (m.getD k 0).testBit i=false->iY.apart ops ok=true/\A k=false:=λk ok hk n9 Ep fW=>by
     refine Eo k ok hk n9 ?_ fW
     by_cases n_:j=k
     . subst n_;exact An
     . rw[getD_set_ne true n_] at Ep;exact Ep
    have Ho:=λcs b=>En i iY cs b ar
    have Lz:=λcs b=>En j ik cs b xo
    have aci:N j=false:=by
     cases ho:N j with
     | false=>rfl
     | true =>
      have eZ:=Lu (Cb hM m_ a' (Sb nE (yG bo) (yG a') bf ho).2)
      rw[An] at eZ;cases eZ
    have il:∀an,tI N eF C j an↔C an:=λan=>by unfold tI;rw[aci];simp
    -- asy 'Se asz,asA 'Sf left
    have after:∀v an,tJ P ops C A N eF Z Q (fuel+1) (dK.setIfInBounds i true) (a.put iY.dst v) an ->
     mZ P ops C A N eF Z j (tJ P ops C A N eF Z Q fuel ((dK.setIfInBounds i true).setIfInBounds j true)) (a.put iY.dst v) an:=λv an hk=>hk.2 j (ready_mono bo iZ)
    unfold mZ;simp only[xo,Hr,Bool.false_eq_true,if_false];by_cases Ht:Region.wanted ik (yielded ops a.tmps)=true
    . simp only[Ht,if_true]
      have get:∀v an,tJ P ops C A N eF Z Q (fuel+1) (dK.setIfInBounds i true) (a.put iY.dst v) an ->
       ∃u,(∀an,tI N eF C j an->(execOp a.eval ik).run P an=.ok (.value u) an)/\tJ P ops C A N eF Z Q fuel ((dK.setIfInBounds i true).setIfInBounds j true) ((a.put iY.dst v).put ik.dst u) an:=λv an hk=>by
       have h1:=after v an hk
       unfold mZ at h1
       simp only[xo,Hr,Bool.false_eq_true,if_false] at h1
       rw[wanted_put ik a iY.dst v Hs,Ht,if_pos rfl,execOp_put ik Lz a iY.dst v Hs] at h1
       exact h1
      have asB:i≠Z:=λe=>by
       subst e
       have c6:=Lv hM cO m_ a' (yG bo) iZ
       rw[An] at c6;cases c6
      obtain⟨v0,w0,Sg,acj⟩:=R7 H;obtain⟨u,hu,_⟩:=get v0 w0 acj;refine⟨u,hu,b' (dK.setIfInBounds j true) (a.put ik.dst u) w hC.set (m_.set hM bo) Hq (ready_mono a' (Ne.symm iZ)) ?_ ?_⟩
      . rw[wanted_put iY a ik.dst u Er];exact hw
      . rw[execOp_put iY Ho a ik.dst u Er];refine Al (λv an ⟨ao,hk⟩=>⟨ao,?_⟩) H;obtain⟨Es,Hu,rD⟩:=get v an hk
        have e:Es=u:=by
         have h1:=hu w ((il w).2 hC.1)
         rw[Hu w ((il w).2 hC.1)] at h1
         simpa using h1
        subst e;rw[Array.setIfInBounds_comm _ _ iZ,<-Act.put_comm a v Es LB];exact rD
    . simp only[Ht,Bool.false_eq_true,if_false];refine b' (dK.setIfInBounds j true) (a.put ik.dst undef) w hC.set (m_.set hM bo) Hq (ready_mono a' (Ne.symm iZ)) ?_ ?_
      . rw[wanted_put iY a ik.dst undef Er];exact hw
      . rw[execOp_put iY Ho a ik.dst undef Er];refine Al (λv an ⟨ao,hk⟩=>⟨ao,?_⟩) H;have h1:=after v an hk;unfold mZ at h1;simp only[xo] at h1;rw[wanted_put ik a iY.dst v Hs,if_neg (by simpa using Ht)] at h1;rw[Array.setIfInBounds_comm _ _ iZ,<-Act.put_comm a v undef LB];exact h1
theorem Sh{m:Array Nat}(hM:vX ops m=true)(nE:uQ ops m A N=true)(cO:Am ops m Z){Q:Act->World->Prop}(aT:Region.noSelect ops=true):∀(fuel k:Nat) (dK:Array Bool) (a:Act) (w:World),(J ops N eF C dK w\/fuel=0)->tH m dK ->
 k+fuel=ops.size->Cc ops m A fuel k dK=true->wd P ops C A N eF Z Q (List.range' k fuel) a w->tJ P ops C A N eF Z Q fuel dK a w
 | 0,_,_,_,_,_,_,_,fX,h=>⟨by simpa[Cc] using fX,h⟩
 | fuel+1,k,dK,a,w,Sg,m_,dI,fX,h=>by
  have hC:J ops N eF C dK w:=Sg.resolve_right aa
  have hL:k<ops.size:=by omega
  have bK:ops[k]?=some ops[k]:=by simp[hL]
  simp only[Cc,Bool.and_eq_true,List.contains_iff_mem] at fX
  obtain⟨⟨a',bB⟩,Hv⟩:=fX
  have Hw:=aca bK bB
  rw[List.range'_succ] at h
  simp only[wd] at h
  have Cg:=m_.set hM a'
  have Ao:k=Z->fuel=0:=λe=>by
   subst e
   have hd:=R' hM cO m_ a'
   cases fuel with
   | zero=>rfl
   | succ f =>
    simp only[Cc,Bool.and_eq_true,List.contains_iff_mem] at Hv
    rw[hd] at Hv
    exact absurd Hv.1.1 dg
  have LC:∀a w,(J ops N eF C (dK.setIfInBounds k true) w\/fuel=0)->wd P ops C A N eF Z Q (List.range' (k+1) fuel) a w->tJ P ops C A N eF Z Q fuel (dK.setIfInBounds k true) a w:=λa w ao hk =>
   Sh hM nE cO aT fuel (k+1) _ a w ao Cg aa Hv hk
  unfold mZ at h
  simp only[bK] at h
  by_cases hw:Region.wanted ops[k] (yielded ops a.tmps)=true
  . simp only[hw,if_true] at h
    by_cases bf:A k=true
    . simp only[bf,if_true] at h
      exact ach hM nE cO bK bf (Region.noSelect_spec aT) fuel dK a w hC m_ (λj ik bo dG bj hm=>⟨(Hw j ik bo dG bj hm).1,by have:=(Hw j ik bo dG bj hm).2;simpa[bf] using this⟩) a' hw
       (Al (λv an cI=>⟨cI.1,LC _ _ (cI.1.elim (λe=>.inr (Ao e)) (λe=>.inl (J.act hM nE m_ a' bf e))) cI.2⟩) h)
    . simp only[bf] at h
      obtain⟨v,cI,hk⟩:=h
      exact Sd hM nE cO bK (Region.noSelect_spec aT) fuel dK a w hC m_ (λj ik bo dG bj hm=>(Hw j ik bo dG bj hm).1) a' (.inl ⟨hw,by simpa using bf,cI⟩) (LC _ _ (.inl hC.set) hk)
  . simp only[hw] at h
    exact Sd (A:=A) (v:=undef) hM nE cO bK (Region.noSelect_spec aT) fuel dK a w hC m_ (λj ik bo dG bj hm=>(Hw j ik bo dG bj hm).1) a' (.inr ⟨by simpa using hw,rfl⟩) (LC _ _ (.inl hC.set) h)
theorem ack{id:Nat}{Q:Exit->Act->World->Prop}{a:Act}{w:World}(hm:P.follows .mixedOrders=true)(fX:Cd ops A Z=true)(ho:uQ ops (Region.before ops) A N=true)(hC:C w.drew)
 (h:wd P ops C A N w.drew Z (λqW an=>Q .normal qW an) (List.range' 0 ops.size) a w.drew):(Code.region id ops true).wp P Q a w:=by
 simp only[Cd,Bool.and_eq_true] at fX;have cO:=ab' fX.1.1.1
 have m_:tH (Region.before ops) (Array.replicate ops.size false):=λj k bo=>by
  simp only[Array.getD_eq_getD_getElem?,Array.getElem?_replicate] at bo
  split at bo<;>simp at bo
 have Si:J ops N w.drew C (Array.replicate ops.size false) w.drew:=⟨hC,.inl rfl⟩;exact wp_region_any hm (Em (C:=C) (A:=A) (Z:=Z) fX.1.2 ho cO (Q:=λqW an=>Q .normal qW an) (λ_ _ h=>h) _ _ _ _ (.inl Si) m_ (Sh fX.1.2 ho cO fX.1.1.2 ops.size 0 _ a _ (.inl Si) m_ aa fX.2 h))
variable {f:FuncId} {R:Ending->World->Prop} {n:Nat}
def iN(P:Program)(f:FuncId)(R:Ending->World->Prop)(n:Nat)(C:World->Prop)(A N:Nat->Bool)(eF:World)(Z:Nat)(ops:Array Oper)(l:List Nat)(E:Env)(k:List Item)(w:World):Prop:=
 ∀a,Sat n E a->wd P ops C A N eF Z (λa w=>p2 P f R k a w) l a w
theorem Sj(A N:Nat->Bool)(Z:Nat)(C:World->Prop){id:Nat}{ops:Array Oper}{E:Env}{k:List Item}{w:World}(hm:P.follows .mixedOrders=true)(fX:Cd ops A Z=true)(ho:uQ ops (Region.before ops) A N=true)
 (h:C w.drew/\iN P f R n C A N w.drew Z ops (List.range' 0 ops.size) E k w.drew):hs P f R n E (.code (.region id ops true)::k) w:=
 λa aw=>R6 (ack (A:=A) (N:=N) (C:=C) (Z:=Z) hm fX ho h.1 (by
  have:=h.2 a aw
  refine cast ?_ this
  congr
  funext qW an
  simp))
theorem Ap(A N:Nat->Bool)(Z:Nat)(C:World->Prop){id:Nat}{ops:Array Oper}{E:Env}{k:List Item}{w:World}(hm:P.follows .mixedOrders=true){l:List Nat}
 (h:∀ai,Ext w ai->C ai/\iN P f R n C A N ai Z ops l E k ai) (fX:Cd ops A Z=true:=by kernel_rfl) (ho:uQ ops (Region.before ops) A N=true:=by kernel_rfl) (bj:List.range' 0 ops.size=l:=by exact rfl):hs P f R n E (.code (.region id ops true)::k) w:=
 Sj A N Z C hm fX ho (bj▸h w.drew (Mod.drew _ _))
theorem iN.nil{ops:Array Oper}{E:Env}{k:List Item}{w:World}(h:hs P f R n E k w):iN P f R n C A N eF Z ops [] E k w:=λa aw=>h a aw
theorem iN.q{ops:Array Oper}{o:Oper}{i:Nat}{l:List Nat}{E:Env}{k:List Item}{w:World}{v:Value}(eh:ops[i]?=some o)(bf:A i=false)(dH:bx P o E (tI N eF C i) v)
 (hw:want n ops E o.guard=some true) (hd:kh n o.dst=true) (h:iN P f R n C A N eF Z ops l (pu o.dst v E) k w):iN P f R n C A N eF Z ops (i::l) E k w:=by
 intro a aw;simp only[wd,mZ,eh,Ca aw hw,bf,if_true,Bool.false_eq_true,if_false];exact⟨v,dH a aw.has,h _ (aw.put hd v)⟩
theorem iN.acm {ops : Array Oper} {o : Oper} {i : Nat} {l : List Nat} {E : Env} {k : List Item} {w : World} {v : Value} (eh : ops[i]? = some o) (bf : A i = false) (ho : N i = true) (dH : bx P o E (fun an => an = eF) v)
    (hw : want n ops E o.guard = some true) (hd : kh n o.dst = true) (h : iN P f R n C A N eF Z ops l (pu o.dst v E) k w) : iN P f R n C A N eF Z ops (i :: l) E k w :=
  iN.q eh bf (by have : tI N eF C i = fun an => an = eF := by funext an; unfold tI; rw [if_pos ho]
                 rw [this]; exact dH) hw hd h
theorem iN.Sk {ops : Array Oper} {o : Oper} {i : Nat} {l : List Nat} {E : Env} {k : List Item} {w : World} {v : Value} (eh : ops[i]? = some o) (bf : A i = false) (ho : N i = false) (dH : bx P o E C v)
    (hw : want n ops E o.guard = some true) (hd : kh n o.dst = true) (h : iN P f R n C A N eF Z ops l (pu o.dst v E) k w) : iN P f R n C A N eF Z ops (i :: l) E k w :=
  iN.q eh bf (by have : tI N eF C i = C := by funext an; unfold tI; rw [if_neg (by rw [ho]; simp)]
                 rw [this]; exact dH) hw hd h
theorem iN.ew{ops:Array Oper}{o:Oper}{i:Nat}{l:List Nat}{E:Env}{k:List Item}{w:World}(eh:ops[i]?=some o)
 (hw:want n ops E o.guard=some false) (hd:kh n o.dst=true) (h:iN P f R n C A N eF Z ops l (pu o.dst undef E) k w):iN P f R n C A N eF Z ops (i::l) E k w:=by
 intro a aw;simp only[wd,mZ,eh,Ca aw hw,Bool.false_eq_true,if_false];exact h _ (aw.put hd undef)
theorem iN.act{ops:Array Oper}{o:Oper}{i:Nat}{l:List Nat}{E:Env}{k:List Item}{w:World}(eh:ops[i]?=some o)(bf:A i=true)
 (hw:want n ops E o.guard=some true) (hd:kh n o.dst=true) (aw:gB P o E w (λv an=>(i=Z\/C an)/\iN P f R n C A N eF Z ops l (pu o.dst v E) k an)):iN P f R n C A N eF Z ops (i::l) E k w:=by
 intro a aT;simp only[wd,mZ,eh,Ca aT hw,bf,if_true];exact Al (λv an cI=>⟨cI.1,cI.2 _ (aT.put hd v)⟩) (aw a aT.has)
end
end Go.py
namespace Go.aH
open Go
section
variable {P:Program} {C:World->Prop} {A:Nat->Bool} {Z:Nat} {f:FuncId} {R:Ending->World->Prop} {n:Nat}
def hN(P:Program)(f:FuncId)(R:Ending->World->Prop)(n:Nat)(C:World->Prop)(A:Nat->Bool)(Z:Nat)(ops:Array Oper)(l:List Nat)(E:Env)(k:List Item)(w:World):Prop:=
 ∀eF,py.iN P f R n C A (λ_=>false) eF Z ops l E k w
theorem acn(ops:Array Oper)(m:Array Nat)(A:Nat->Bool):py.uQ ops m A (λ_=>false)=true:=by
 unfold py.uQ;simp
theorem aco(A:Nat->Bool)(Z:Nat)(C:World->Prop){id:Nat}{ops:Array Oper}{E:Env}{k:List Item}{w:World}(hm:P.follows .mixedOrders=true)(fX:Cd ops A Z=true)
 (h:C w.drew/\hN P f R n C A Z ops (List.range' 0 ops.size) E k w.drew):hs P f R n E (.code (.region id ops true)::k) w:=
 py.Sj A (λ_=>false) Z C hm fX (acn _ _ _) ⟨h.1,h.2 _⟩
theorem hN.nil{ops:Array Oper}{E:Env}{k:List Item}{w:World}(h:hs P f R n E k w):hN P f R n C A Z ops [] E k w:=λeF=>py.iN.nil h
theorem hN.q{ops:Array Oper}{o:Oper}{i:Nat}{l:List Nat}{E:Env}{k:List Item}{w:World}{v:Value}(eh:ops[i]?=some o)(bf:A i=false)(dH:bx P o E C v)
 (hw:want n ops E o.guard=some true) (hd:kh n o.dst=true) (h:hN P f R n C A Z ops l (pu o.dst v E) k w):hN P f R n C A Z ops (i::l) E k w:=λeF=>py.iN.Sk eh bf rfl dH hw hd (h eF)
theorem hN.ew{ops:Array Oper}{o:Oper}{i:Nat}{l:List Nat}{E:Env}{k:List Item}{w:World}(eh:ops[i]?=some o)
 (hw:want n ops E o.guard=some false) (hd:kh n o.dst=true) (h:hN P f R n C A Z ops l (pu o.dst undef E) k w):hN P f R n C A Z ops (i::l) E k w:=λeF=>py.iN.ew eh hw hd (h eF)
theorem hN.act{ops:Array Oper}{o:Oper}{i:Nat}{l:List Nat}{E:Env}{k:List Item}{w:World}(eh:ops[i]?=some o)(bf:A i=true)
 (hw:want n ops E o.guard=some true) (hd:kh n o.dst=true) (aw:gB P o E w (λv an=>(i=Z\/C an)/\hN P f R n C A Z ops l (pu o.dst v E) k an)):hN P f R n C A Z ops (i::l) E k w:=λeF=>py.iN.act eh bf hw hd (aw.mono λ_ _ h=>⟨h.1,h.2 eF⟩)
end
end Go.aH
namespace Go.aH
open Go
abbrev aj:=List UInt8
def aE(s:aj):Value:=.string ⟨s.toArray⟩
def ptr(b off:Nat):Value:=.pointer (some ⟨b,off,none⟩)
theorem acp(s:ByteArray):Value.string s=aE s.data.toList:=by simp[aE]
def Row(w:World)(b off:Nat)(cs:List Value):Prop:=∀i v,cs[i]?=some v->w.cell? ⟨b,off+i,none⟩=some v
theorem acq{M:Nat->Prop}{w an:World}{b o:Nat}{v:Value}(h:w.cell? ⟨b,o,none⟩=some v)(hm:Mod M w an)(ab:¬ M b):an.cell? ⟨b,o,none⟩=some v:=by
 unfold World.cell? at h ⊢;simp only[Option.isSome_none,Bool.false_eq_true,if_false] at h ⊢
 cases hD:w.heap[b]? with
 | none=>rw[hD] at h;cases h
 | some LD =>
  rw[hm.keep b LD hD ab];rw[hD] at h;exact h
theorem Row.keep{M:Nat->Prop}{w an:World}{b off:Nat}{cs:List Value}(h:Row w b off cs)(hm:Mod M w an)(ab:¬ M b):Row an b off cs:=λi v cI=>acq (h i v cI) hm ab
theorem Row.ext{w an:World}{b off:Nat}{cs:List Value}(h:Row w b off cs)(hm:Ext w an):Row an b off cs:=h.keep hm (λx=>x)
theorem Row.eD{w:World}{b:Nat}{cs:List Value}{e:TypeId}{acr:Nat×Nat}(h:w.heap[b]?=some (.cells cs.toArray e acr)):Row w b 0 cs:=λi v cI=>by
 simp[World.cell?,h,cI]
theorem Row.sub{w:World}{b off:Nat}{cs:List Value}(h:Row w b off cs)(i n:Nat)(aN:i+n<=cs.length):Row w b (off+i) ((cs.drop i).take n):=λj v cI=>by
 rw[List.getElem?_take] at cI
 split at cI
 . rw[List.getElem?_drop] at cI
   rw[Nat.add_assoc];exact h _ _ cI
 . cases cI
theorem Row.cell{w:World}{b off:Nat}{cs:List Value}(h:Row w b off cs)(i:Nat)(v:Value)(cI:cs[i]?=some v):w.cell? ⟨b,off+i,none⟩=some v:=h i v cI
theorem add_lit(b off i:Nat):(⟨b,off,none⟩:Addr).add i=⟨b,off+i,none⟩:=by unfold Addr.add;split<;>simp_all
def ey(P:Program)(t:TypeId):Option (Bool×Nat×Nat×List Value):=
 match P.info? t,P.underlying t with
 | some i,some d=>match i.zero with
  | some z=>some ((match d with | .struct _=>true | .array _ _=>true|_=>false),i.size,i.bytes,z.cells.toList)
  | none=>none
 | _,_=>none
section
variable {P:Program}
theorem Ch{t:TypeId}{g:Bool}{n by_:Nat}{z:List Value}(h:ey P t=some (g,n,by_,z)):
 ∃i d jS,P.info? t=some i/\P.underlying t=some d/\i.zero=some jS/\i.size=n/\i.bytes=by_/\jS.cells.toList=z/\(match d with | .struct _=>true | .array _ _=>true|_=>false)=g:=by
 unfold ey at h
 cases ar:P.info? t with
 | none=>simp[ar] at h
 | some i =>
  cases hd:P.underlying t with
  | none=>simp[ar,hd] at h
  | some d =>
   cases cO:i.zero with
   | none=>simp[ar,hd,cO] at h
   | some jS =>
    simp only[ar,hd,cO,Option.some.injEq,Prod.mk.injEq] at h;exact⟨i,d,jS,rfl,rfl,cO,h.2.1,h.2.2.1,h.2.2.2,h.1⟩
theorem LF{t:TypeId}{g:Bool}{n by_:Nat}{z:List Value}(h:ey P t=some (g,n,by_,z))(w:World):(isAgg t).run P w=.ok g w:=by
 obtain⟨i,d,jS,h1,ah,aB,bE,c6,eZ,kB⟩:=Ch h;unfold isAgg;simp only[Sem.run_bind,run_underlying ah,Result.andThen_ok]
 cases d<;>simp_all
theorem run_sizeOf{t:TypeId}{g:Bool}{n by_:Nat}{z:List Value}(h:ey P t=some (g,n,by_,z))(w:World):(sizeOf t).run P w=.ok n w:=by
 obtain⟨i,d,jS,h1,ah,aB,bE,c6,eZ,kB⟩:=Ch h;simp[sizeOf,typeInfo,h1,bE]
theorem Sl{t:TypeId}{g:Bool}{n by_:Nat}{z:List Value}(h:ey P t=some (g,n,by_,z))(w:World):∃jS,jS.cells.toList=z/\(zeroValue t).run P w=.ok jS w:=by
 obtain⟨i,d,jS,h1,ah,aB,bE,c6,eZ,kB⟩:=Ch h;exact⟨jS,eZ,by simp[zeroValue,typeInfo,h1,aB]⟩
theorem LG{t:TypeId}{n by_:Nat}{z:List Value}(h:ey P t=some (true,n,by_,z)){w:World}{b off:Nat}{cs:List Value}(a':Row w b off cs)(aN:cs.length=n):
 (loadVar t ⟨b,off,none⟩).run P w=.ok (.agg cs.toArray) w:=by
 unfold loadVar;have bj:=run_loadCells_list (P:=P) w ⟨b,off,none⟩ cs (λj v cI=>by rw[add_lit];exact a'.cell j v cI);rw[aN] at bj;simp[LF h,run_sizeOf h,bj]
theorem acs{t:TypeId}{n by_:Nat}{z:List Value}(h:ey P t=some (false,n,by_,z)){w:World}{b off:Nat}{v:Value}(a':Row w b off [v]):
 (loadVar t ⟨b,off,none⟩).run P w=.ok v w:=by
 unfold loadVar;have:=a'.cell 0 v rfl;simp only[Nat.add_zero] at this;simp[LF h,this]
variable {E:Env} {C:World->Prop} {d:Option Tmp} {ty:TypeId} {pos:String} {af:Array Edge} {gd:Option (Nat×Bool)}
theorem bx.move{x:Operand}{v:Value}(ag:aO E x=some v):bx P ⟨d,.move x,ty,pos,af,gd⟩ E C v:=λa aw w _=>by
 simp[execOp,aw.aO ag]
theorem bx.assign{x:Operand}{v:Value}(ag:aO E x=some v):bx P ⟨d,.assign x,ty,pos,af,gd⟩ E C v:=λa aw w _=>by
 simp[execOp,aw.aO ag]
theorem bx.pick{c x y:Operand}{t:Bool}{v:Value}(ao:aO E c=some (.bool t))(ag:t=true->aO E x=some v)(aD:t=false->aO E y=some v):
 bx P ⟨d,.pick c x y,ty,pos,af,gd⟩ E C v:=λa aw w _=>by
 cases t with
 | true=>simp[execOp,aw.aO ao,aw.aO (ag rfl),asBool]
 | false=>simp[execOp,aw.aO ao,aw.aO (aD rfl),asBool]
theorem bx.acu{c x y:Operand}{v:Value}(ao:aO E c=some (.bool true))(ag:aO E x=some v):
 bx P ⟨d,.pick c x y,ty,pos,af,gd⟩ E C v:=bx.pick ao (λ_=>ag) (λh=>by cases h)
theorem bx.acv{c x y:Operand}{v:Value}(ao:aO E c=some (.bool false))(ag:aO E y=some v):
 bx P ⟨d,.pick c x y,ty,pos,af,gd⟩ E C v:=bx.pick ao (λh=>by cases h) (λ_=>ag)
section
variable {x y:Operand} {xt yt:TypeId} {k:IntKind} {p q:Int}
theorem uR(op:BinOp)(t:TypeId)(x y:Operand)(w:World):(eqGuard op t x y (.int k p) (.int k q)).run P w=.ok () w:=by
 unfold eqGuard;split<;>simp
theorem LH(op:BinOp)(t:TypeId)(x y:Operand)(w:World)(s jT:ByteArray):(eqGuard op t x y (.string s) (.string jT)).run P w=.ok () w:=by
 unfold eqGuard;split<;>simp
theorem bx.add(ag:aO E x=some (.int k p))(aD:aO E y=some (.int k q)):bx P ⟨d,.binOp .add xt x y yt,ty,pos,af,gd⟩ E C (.int k (k.wrap (p+q))):=λa aw w _=>by
 simp[execOp,aw.aO ag,aw.aO aD,uR,Go.binOp,Op.intArith]
theorem bx.sub(ag:aO E x=some (.int k p))(aD:aO E y=some (.int k q)):bx P ⟨d,.binOp .sub xt x y yt,ty,pos,af,gd⟩ E C (.int k (k.wrap (p-q))):=λa aw w _=>by
 simp[execOp,aw.aO ag,aw.aO aD,uR,Go.binOp,Op.intArith]
theorem bx.mul(ag:aO E x=some (.int k p))(aD:aO E y=some (.int k q)):bx P ⟨d,.binOp .mul xt x y yt,ty,pos,af,gd⟩ E C (.int k (k.wrap (p*q))):=λa aw w _=>by
 simp[execOp,aw.aO ag,aw.aO aD,uR,Go.binOp,Op.intArith]
theorem bx.quo(ag:aO E x=some (.int k p))(aD:aO E y=some (.int k q))(bK:q≠0):bx P ⟨d,.binOp .quo xt x y yt,ty,pos,af,gd⟩ E C (.int k (k.wrap (p.tdiv q))):=λa aw w _=>by
 simp[execOp,aw.aO ag,aw.aO aD,uR,Go.binOp,Op.intDiv,bK]
theorem bx.rem(ag:aO E x=some (.int k p))(aD:aO E y=some (.int k q))(bK:q≠0):bx P ⟨d,.binOp .rem xt x y yt,ty,pos,af,gd⟩ E C (.int k (p.tmod q)):=λa aw w _=>by
 simp[execOp,aw.aO ag,aw.aO aD,uR,Go.binOp,Op.intDiv,bK]
theorem bx.cd(r:Int)(ag:aO E x=some (.int .i64 p))(aD:aO E y=some (.int .i64 q))(a':p+q=r/\-9223372036854775808<=r/\r<=9223372036854775807):bx P ⟨d,.binOp .add xt x y yt,ty,pos,af,gd⟩ E C (.int .i64 r):=by
 have h:=bx.add (P:=P) (C:=C) (d:=d) (xt:=xt) (yt:=yt) (ty:=ty) (pos:=pos) (af:=af) (gd:=gd) ag aD;rw[IntWalk.i64_in _ aa,a'.1] at h;exact h
theorem bx.hY(r:Int)(ag:aO E x=some (.int .i64 p))(aD:aO E y=some (.int .i64 q))(a':p-q=r/\-9223372036854775808<=r/\r<=9223372036854775807):bx P ⟨d,.binOp .sub xt x y yt,ty,pos,af,gd⟩ E C (.int .i64 r):=by
 have h:=bx.sub (P:=P) (C:=C) (d:=d) (xt:=xt) (yt:=yt) (ty:=ty) (pos:=pos) (af:=af) (gd:=gd) ag aD;rw[IntWalk.i64_in _ aa,a'.1] at h;exact h
theorem bx.Sm(r:Int)(ag:aO E x=some (.int .i64 p))(aD:aO E y=some (.int .i64 q))(a':p*q=r/\-9223372036854775808<=r/\r<=9223372036854775807):bx P ⟨d,.binOp .mul xt x y yt,ty,pos,af,gd⟩ E C (.int .i64 r):=by
 have h:=bx.mul (P:=P) (C:=C) (d:=d) (xt:=xt) (yt:=yt) (ty:=ty) (pos:=pos) (af:=af) (gd:=gd) ag aD;rw[IntWalk.i64_in _ (by rw[a'.1];omega),a'.1] at h;exact h
theorem bx.rE(r:Int)(ag:aO E x=some (.int k p))(aD:aO E y=some (.int k q))(a':0<=p/\q≠0/\p % q=r):bx P ⟨d,.binOp .rem xt x y yt,ty,pos,af,gd⟩ E C (.int k r):=by
 have h:=bx.rem (P:=P) (C:=C) (d:=d) (xt:=xt) (yt:=yt) (ty:=ty) (pos:=pos) (af:=af) (gd:=gd) ag aD a'.2.1;rw[Int.tmod_eq_emod_of_nonneg a'.1,a'.2.2] at h;exact h
theorem bx.eq(ag:aO E x=some (.int k p))(aD:aO E y=some (.int k q)):bx P ⟨d,.binOp .eql xt x y yt,ty,pos,af,gd⟩ E C (.bool (p==q)):=λa aw w _=>by
 simp[execOp,aw.aO ag,aw.aO aD,uR,Go.binOp,Op.intCmp]
theorem bx.ne(ag:aO E x=some (.int k p))(aD:aO E y=some (.int k q)):bx P ⟨d,.binOp .neq xt x y yt,ty,pos,af,gd⟩ E C (.bool (p != q)):=λa aw w _=>by
 simp[execOp,aw.aO ag,aw.aO aD,uR,Go.binOp,Op.intCmp]
theorem bx.lt(ag:aO E x=some (.int k p))(aD:aO E y=some (.int k q)):bx P ⟨d,.binOp .lss xt x y yt,ty,pos,af,gd⟩ E C (.bool (decide (p<q))):=λa aw w _=>by
 simp[execOp,aw.aO ag,aw.aO aD,uR,Go.binOp,Op.intCmp]
theorem bx.le(ag:aO E x=some (.int k p))(aD:aO E y=some (.int k q)):bx P ⟨d,.binOp .leq xt x y yt,ty,pos,af,gd⟩ E C (.bool (decide (p<=q))):=λa aw w _=>by
 simp[execOp,aw.aO ag,aw.aO aD,uR,Go.binOp,Op.intCmp]
theorem bx.gt(ag:aO E x=some (.int k p))(aD:aO E y=some (.int k q)):bx P ⟨d,.binOp .gtr xt x y yt,ty,pos,af,gd⟩ E C (.bool (decide (q<p))):=λa aw w _=>by
 simp[execOp,aw.aO ag,aw.aO aD,uR,Go.binOp,Op.intCmp]
theorem bx.ge(ag:aO E x=some (.int k p))(aD:aO E y=some (.int k q)):bx P ⟨d,.binOp .geq xt x y yt,ty,pos,af,gd⟩ E C (.bool (decide (q<=p))):=λa aw w _=>by
 simp[execOp,aw.aO ag,aw.aO aD,uR,Go.binOp,Op.intCmp]
theorem toList_mk(s:aj):(⟨s.toArray⟩:ByteArray).toList=s:=by
 rw[ByteArray.toList_eq]
theorem bx.Et{s t:aj}(ag:aO E x=some (aE s))(aD:aO E y=some (aE t)):bx P ⟨d,.binOp .eql xt x y yt,ty,pos,af,gd⟩ E C (.bool (s==t)):=λa aw w _=>by
 simp[execOp,aw.aO ag,aw.aO aD,aE,LH,Go.binOp,Op.stringOp]
theorem bx.LI{s t:aj}(ag:aO E x=some (aE s))(aD:aO E y=some (aE t)):bx P ⟨d,.binOp .neq xt x y yt,ty,pos,af,gd⟩ E C (.bool (!(s==t))):=λa aw w _=>by
 simp[execOp,aw.aO ag,aw.aO aD,aE,LH,Go.binOp,Op.stringOp]
theorem bx.uS{s t:aj}(ag:aO E x=some (aE s))(aD:aO E y=some (aE t))(bj:s.length+t.length<=9223372036854775807):bx P ⟨d,.binOp .add xt x y yt,ty,pos,af,gd⟩ E C (aE (s++t)):=λa aw w _=>by
 have h1:¬ ((9223372036854775807:Int)<((s.length:Int)+(t.length:Int))):=by omega
 have ah:(⟨s.toArray⟩:ByteArray)++⟨t.toArray⟩=⟨(s++t).toArray⟩:=by
  apply ByteArray.ext
  simp
 have aB:(⟨s.toArray⟩:ByteArray).size=s.length:=by simp[ByteArray.size]
 have bE:(⟨t.toArray⟩:ByteArray).size=t.length:=by simp[ByteArray.size]
 simp[execOp,aw.aO ag,aw.aO aD,aE,LH,Go.binOp,Op.stringOp,ah,aB,bE,IntKind.max,IntKind.signed,IntKind.bits,h1]
theorem Sn(op:BinOp)(t:TypeId)(x y:Operand)(w:World)(a b:Bool):(eqGuard op t x y (.bool a) (.bool b)).run P w=.ok () w:=by
 unfold eqGuard;split<;>simp
theorem bx.acw{s t:Bool}(hu:P.underlying xt=some .bool)(ag:aO E x=some (.bool s))(aD:aO E y=some (.bool t)):bx P ⟨d,.binOp .eql xt x y yt,ty,pos,af,gd⟩ E C (.bool (s==t)):=λa aw w _=>by
 simp[execOp,aw.aO ag,aw.aO aD,Sn,Go.binOp,run_equal_bool w xt s t hu]
theorem bx.acx{s t:Bool}(hu:P.underlying xt=some .bool)(ag:aO E x=some (.bool s))(aD:aO E y=some (.bool t)):bx P ⟨d,.binOp .neq xt x y yt,ty,pos,af,gd⟩ E C (.bool (!(s==t))):=λa aw w _=>by
 simp[execOp,aw.aO ag,aw.aO aD,Sn,Go.binOp,run_equal_bool w xt s t hu]
theorem bx.not{s:Bool}(ag:aO E x=some (.bool s)):bx P ⟨d,.unOp .not xt x,ty,pos,af,gd⟩ E C (.bool (!s)):=λa aw w _=>by
 simp[execOp,aw.aO ag,Op.unary]
end
theorem bx.extract{x:Operand}{vs:Array Value}{i:Nat}{v:Value}(ag:aO E x=some (.tuple vs))(cI:vs[i]?=some v):bx P ⟨d,.extract x i,ty,pos,af,gd⟩ E C v:=λa aw w _=>by
 simp[execOp,aw.aO ag,Instr.extract,cI]
def dF(P:Program)(t:TypeId)(i:Nat):Option Nat:=
 match P.underlying t with
 | some (.struct lu)=>match lu[i]? with
  | some f=>match P.info? f.type with
   | some j=>match Nat.beq j.size 0 with
    | true=>none
    | false=>some f.offset
   | none=>none
  | none=>none
 | _=>none
theorem bx.fieldAddr{t:TypeId}{x:Operand}{i b off o:Nat}(bB:dF P t i=some o)(ag:aO E x=some (ptr b off)):
 bx P ⟨d,.fieldAddr t x i,ty,pos,af,gd⟩ E C (ptr b (off+o)):=λa aw w _=>by
 unfold dF at bB
 split at bB
 . rename_i lu hu
   split at bB
   . rename_i f qu
     split at bB
     . rename_i j bo
       split at bB
       . cases bB
       . rename_i ab
         simp only[Option.some.injEq] at bB
         have bK:¬ j.size=0:=λe=>by rw[e] at ab;cases ab
         simp[execOp,aw.aO ag,ptr,Instr.fieldAt,Instr.sureAddr,run_underlying hu,qu,fieldPlace,sizeOf,typeInfo,bo,bK,add_lit,bB]
     . cases bB
   . cases bB
 . cases bB
theorem bx.load{t:TypeId}{x:Operand}{b off:Nat}{v:Value}(ag:aO E x=some (ptr b off))(bj:∀w,C w->(loadVar t ⟨b,off,none⟩).run P w=.ok v w):
 bx P ⟨d,.load t x,ty,pos,af,gd⟩ E C v:=λa aw w hC=>by
 simp[execOp,aw.aO ag,ptr,Instr.loadAt,Instr.sureAddr,bj w hC]
theorem bx.cg{t:TypeId}{x:Operand}{b off n by_:Nat}{z:List Value}{v:Value}(a8:ey P t=some (false,n,by_,z))(ag:aO E x=some (ptr b off))(a':∀w,C w->Row w b off [v]):
 bx P ⟨d,.load t x,ty,pos,af,gd⟩ E C v:=bx.load ag λw hw=>acs a8 (a' w hw)
theorem bx.cq{t:TypeId}{x:Operand}{b off n by_:Nat}{z cs:List Value}(a8:ey P t=some (true,n,by_,z))(ag:aO E x=some (ptr b off))(a':∀w,C w->Row w b off cs)(aN:cs.length=n):
 bx P ⟨d,.load t x,ty,pos,af,gd⟩ E C (.agg cs.toArray):=bx.load ag λw hw=>LG a8 (a' w hw) aN
end
section
variable {α:Type}
def aq(enc:α->List Value)(w:World)(F:Nat->Prop)(v:Value)(l:List α):Prop:=
 ∃a cap,v=.slice a l.length cap/\l.length<=cap/\cap<=maxLen/\(l=[]\/∃b off,a=some ⟨b,off,none⟩/\F b/\Row w b off (l.flatMap enc))
variable {enc:α->List Value} {w:World} {F:Nat->Prop} {v:Value} {l:List α}
theorem aq.nil:aq enc w F (.slice none 0 0) []:=⟨none,0,rfl,Nat.le_refl _,Nat.zero_le _,.inl rfl⟩
theorem aq.keep{M:Nat->Prop}{an:World}(h:aq enc w F v l)(hm:Mod M w an)(bs:∀b,F b->¬ M b):aq enc an F v l:=by
 obtain⟨a,cap,h1,ah,aB,bE⟩:=h;refine⟨a,cap,h1,ah,aB,?_⟩;rcases bE with bE|⟨b,off,c6,eZ,kB⟩
 . exact .inl bE
 . exact .inr ⟨b,off,c6,eZ,kB.keep hm (bs b eZ)⟩
theorem aq.ext{an:World}(h:aq enc w F v l)(hm:Ext w an):aq enc an F v l:=h.keep hm (λ_ _ h=>h)
theorem aq.mono{F':Nat->Prop}(h:aq enc w F v l)(bs:∀b,F b->F' b):aq enc w F' v l:=by
 obtain⟨a,cap,h1,ah,aB,bE⟩:=h;refine⟨a,cap,h1,ah,aB,?_⟩;rcases bE with bE|⟨b,off,c6,eZ,kB⟩
 . exact .inl bE
 . exact .inr ⟨b,off,c6,bs b eZ,kB⟩
theorem aq.le(h:aq enc w F v l):l.length<=9223372036854775807:=by
 obtain⟨a,cap,h1,ah,aB,bE⟩:=h;exact Nat.le_trans ah aB
theorem aq.shape(h:aq enc w F v l):∃a cap,v=.slice a l.length cap:=by
 obtain⟨a,cap,h1,ah,aB,bE⟩:=h;exact⟨a,cap,h1⟩
theorem Hx{sz:Nat}(dI:∀x,(enc x).length=sz):∀(l:List α) (i:Nat) (h:i<l.length),((l.flatMap enc).drop (i*sz)).take sz=enc l[i]/\i*sz+sz<=(l.flatMap enc).length
 | x::l,0,_=>by
  refine⟨?_,by simp[List.flatMap_cons,dI]⟩
  simp only[Nat.zero_mul,List.drop_zero,List.flatMap_cons,List.getElem_cons_zero]
  rw[<-dI x,List.take_left']
  rfl
 | x::l,i+1,h=>by
  have b':=Hx dI l i (by simpa using h)
  simp only[List.flatMap_cons,List.getElem_cons_succ]
  have e:(i+1)*sz=(enc x).length+i*sz:=by rw[dI,Nat.add_mul];omega
  rw[e,List.drop_append,List.drop_of_length_le aa,Nat.add_sub_cancel_left,List.nil_append]
  refine⟨b'.1,?_⟩
  rw[List.length_append];have:=b'.2;omega
theorem rF{sz:Nat}(dI:∀x,(enc x).length=sz)(l:List α):(l.flatMap enc).length=l.length*sz:=by
 induction l with
 | nil=>simp
 | cons x l b'=>simp only[List.flatMap_cons,List.length_append,dI,b',List.length_cons,Nat.add_mul];omega
theorem acy{sz:Nat}(dI:∀x,(enc x).length=sz)(l:List α)(i:Nat):(l.flatMap enc).drop (i*sz)=(l.drop i).flatMap enc:=by
 induction i generalizing l with
 | zero=>simp
 | succ i b' =>
  cases l with
  | nil=>simp
  | cons x l =>
   have e:(i+1)*sz=(enc x).length+i*sz:=(by rw[dI,Nat.add_mul];omega);simp only[List.flatMap_cons,List.drop_succ_cons];rw[e,List.drop_append,List.drop_of_length_le aa,Nat.add_sub_cancel_left,List.nil_append,b']
theorem Sp{sz:Nat}(dI:∀x,(enc x).length=sz)(l:List α)(i:Nat):(l.flatMap enc).take (i*sz)=(l.take i).flatMap enc:=by
 induction i generalizing l with
 | zero=>simp
 | succ i b' =>
  cases l with
  | nil=>simp
  | cons x l =>
   have e:(i+1)*sz=(enc x).length+i*sz:=(by rw[dI,Nat.add_mul];omega);simp only[List.flatMap_cons,List.take_succ_cons];rw[e,List.take_append,List.take_of_length_le aa,Nat.add_sub_cancel_left,b']
section
variable {P:Program} {t e:TypeId}
theorem aq.at{sz by_:Nat}{g:Bool}{z:List Value}(h:aq enc w F v l)(a8:P.underlying t=some (.slice e))(he:ey P e=some (g,sz,by_,z))(dI:∀x,(enc x).length=sz){k:IntKind}{n:Int}(i:Nat)(aN:n=(i:Int))(ar:i<l.length):
 ∃b off,(∀w,(Instr.indexAt t v (.int k n)).run P w=.ok (ptr b off) w)/\F b/\Row w b off (enc l[i]):=by
 obtain⟨a,cap,rfl,ah,aB,bE⟩:=h;rcases bE with rfl|⟨b,off,rfl,c6,eZ⟩
 . simp at ar
 . refine⟨b,off+i*sz,λw=>?_,c6,?_⟩
   . have:(0:Int)<=n/\n<(l.length:Int):=by omega
     have e:n.toNat=i:=(by omega);simp[Instr.indexAt,asIntOf,run_underlying a8,this,run_sizeOf he,add_lit,ptr,e]
   . have bB:=Hx dI l i ar;have:=eZ.sub (i*sz) sz bB.2;rw[bB.1] at this;exact this
end
variable {P:Program} {E:Env} {C:World->Prop} {d:Option Tmp} {ty:TypeId} {pos:String} {af:Array Edge} {gd:Option (Nat×Bool)}
theorem bx.indexAddr{t:TypeId}{x y:Operand}{v u p:Value}(ag:aO E x=some v)(aD:aO E y=some u)(h:∀w,(Instr.indexAt t v u).run P w=.ok p w):bx P ⟨d,.indexAddr t x y,ty,pos,af,gd⟩ E C p:=λa aw w _=>by
 simp[execOp,aw.aO ag,aw.aO aD,h w]
theorem bx.len{t e:TypeId}{x:Operand}{a:Option Addr}{n c:Nat}(hu:P.underlying t=some (.slice e))(ag:aO E x=some (.slice a n c)):bx P ⟨d,.call { callee:=.builtin .len,args:=#[x],argTypes:=#[t] },ty,pos,af,gd⟩ E C (.int .i64 n):=λs aw w _=>by
 simp[execOp,resolve,invoke,builtin,aw.aO ag,Builtin.len_,goInt,run_underlying hu]
theorem bx.ct{t e:TypeId}{x:Operand}(hu:P.underlying t=some (.slice e))(h:aq enc w F v l)(ag:aO E x=some v):bx P ⟨d,.call { callee:=.builtin .len,args:=#[x],argTypes:=#[t] },ty,pos,af,gd⟩ E C (.int .i64 l.length):=by
 obtain⟨a,c,rfl⟩:=h.shape;exact bx.len hu ag
theorem bx.nF{t:TypeId}{x:Operand}{s:aj}(hu:P.underlying t=some .string)(ag:aO E x=some (aE s)):bx P ⟨d,.call { callee:=.builtin .len,args:=#[x],argTypes:=#[t] },ty,pos,af,gd⟩ E C (.int .i64 s.length):=λa aw w _=>by
 have aB:(⟨s.toArray⟩:ByteArray).size=s.length:=by simp[ByteArray.size]
 simp[execOp,resolve,invoke,builtin,aw.aO ag,aE,Builtin.len_,goInt,run_underlying hu,aB]
theorem LJ(k:IntKind)(p q:Int)(w:World):(Builtin.min2 (.int k p) (.int k q)).run P w=.ok (.int k (min p q)) w:=by
 simp only[Builtin.min2,Sem.run_pure];rw[Int.min_def];split<;>split<;>first|rfl|omega
theorem acz(k:IntKind)(p q:Int)(w:World):(Builtin.max2 (.int k p) (.int k q)).run P w=.ok (.int k (max p q)) w:=by
 simp only[Builtin.max2,Sem.run_pure];rw[Int.max_def];split<;>split<;>first|rfl|(congr 2;omega)|omega
theorem bx.min{x y:Operand}{k:IntKind}{p q:Int}{ml:Array TypeId}(ag:aO E x=some (.int k p))(aD:aO E y=some (.int k q)):bx P ⟨d,.call { callee:=.builtin .min,args:=#[x,y],argTypes:=ml },ty,pos,af,gd⟩ E C (.int k (Min.min p q)):=λa aw w _=>by
 simp[execOp,resolve,invoke,builtin,aw.aO ag,aw.aO aD,Builtin.min_,LJ]
theorem bx.max{x y:Operand}{k:IntKind}{p q:Int}{ml:Array TypeId}(ag:aO E x=some (.int k p))(aD:aO E y=some (.int k q)):bx P ⟨d,.call { callee:=.builtin .max,args:=#[x,y],argTypes:=ml },ty,pos,af,gd⟩ E C (.int k (Max.max p q)):=λa aw w _=>by
 simp[execOp,resolve,invoke,builtin,aw.aO ag,aw.aO aD,Builtin.max_,acz]
theorem bx.Sq{x y z:Operand}{k:IntKind}{p q r:Int}{ml:Array TypeId}(ag:aO E x=some (.int k p))(aD:aO E y=some (.int k q))(cO:aO E z=some (.int k r)):bx P ⟨d,.call { callee:=.builtin .min,args:=#[x,y,z],argTypes:=ml },ty,pos,af,gd⟩ E C (.int k (Min.min (Min.min p q) r)):=λa aw w _=>by
 simp[execOp,resolve,invoke,builtin,aw.aO ag,aw.aO aD,aw.aO cO,Builtin.min_,LJ]
theorem bx.Sr{x y z u:Operand}{k:IntKind}{p q r t:Int}{ml:Array TypeId}(ag:aO E x=some (.int k p))(aD:aO E y=some (.int k q))(cO:aO E z=some (.int k r))(hu:aO E u=some (.int k t)):bx P ⟨d,.call { callee:=.builtin .min,args:=#[x,y,z,u],argTypes:=ml },ty,pos,af,gd⟩ E C (.int k (Min.min (Min.min (Min.min p q) r) t)):=λa aw w _=>by
 simp[execOp,resolve,invoke,builtin,aw.aO ag,aw.aO aD,aw.aO cO,aw.aO hu,Builtin.min_,LJ]
theorem bx.rG{s t:TypeId}{x:Operand}{k ju:IntKind}{p:Int}(aT:(P.underlying s).isSome=true)(a8:P.underlying t=some (.int ju))(ag:aO E x=some (.int k p)):bx P ⟨d,.convert s t x,ty,pos,af,gd⟩ E C (.int ju (ju.wrap p)):=λa aw w _=>by
 obtain⟨rH,Aq⟩:=Option.isSome_iff_exists.1 aT
 simp[execOp,aw.aO ag,convert,run_underlying Aq,run_underlying a8,Conv.intToInt]
def fB(r:Int):aj:=(Utf8.encode r).data.toList
theorem bx.v7{s t:TypeId}{x:Operand}{k:IntKind}{p:Int}(aT:(P.underlying s).isSome=true)(a8:P.underlying t=some .string)(ag:aO E x=some (.int k p)):bx P ⟨d,.convert s t x,ty,pos,af,gd⟩ E C (aE (fB p)):=λa aw w _=>by
 simp[execOp,aw.aO ag,run_convert_int_string w s t k p aT a8,aE,fB]
theorem bx.acA{t:TypeId}{x y:Operand}{s:aj}{k:IntKind}{n:Int}(i:Nat)(a8:P.underlying t=some .string)(ag:aO E x=some (aE s))(aD:aO E y=some (.int k n))(aN:n=(i:Int))(ar:i<s.length):
 bx P ⟨d,.index t x y,ty,pos,af,gd⟩ E C (.int .u8 (s[i].toNat:Int)):=λa aw w _=>by
 have h1:(⟨s.toArray⟩:ByteArray)[i]?=some s[i]:=by
  have hL:i<(⟨s.toArray⟩:ByteArray).size:=by simpa[ByteArray.size] using ar
  rw[getElem?_pos _ i hL]
  rfl
 have ah:(0:Int)<=n:=by omega
 have aB:n.toNat=i:=by omega
 simp[execOp,aw.aO ag,aw.aO aD,Instr.index,asIntOf,aE,run_underlying a8,ah,aB,h1]
theorem tK{k:IntKind}{n:Int}{y i:Nat}(code:BoundsCode)(aN:n=(i:Int))(ar:i<=y)(w:World):(Instr.sliceBound (.int k n) y code).run P w=.ok i w:=by
 have h1:0<=n/\n<=(y:Int):=(by omega);have ah:n.toNat=i:=(by omega);simp[Instr.sliceBound,asIntOf,h1,ah]
theorem LK(s:aj)(i j:Nat):(⟨s.toArray⟩:ByteArray).extract i j=⟨((s.take j).drop i).toArray⟩:=by
 apply ByteArray.ext;rw[ByteArray.data_extract];apply Array.ext';simp[List.drop_take]
theorem bx.LL{t:TypeId}{x y:Operand}{s:aj}{k:IntKind}{n:Int}(i:Nat)(a8:P.underlying t=some .string)(ag:aO E x=some (aE s))(aD:aO E y=some (.int k n))(aN:n=(i:Int))(ar:i<=s.length):
 bx P ⟨d,.slice t x (some y) none none,ty,pos,af,gd⟩ E C (aE (s.drop i)):=λa aw w _=>by
 have aB:(⟨s.toArray⟩:ByteArray).size=s.length:=by simp[ByteArray.size]
 simp[execOp,aw.aO ag,aw.aO aD,Instr.sliceAt,Instr.slice,Instr.sliceBounds,aE,run_underlying a8,aB,tK _ aN ar,LK]
theorem bx.LM{t:TypeId}{x y:Operand}{s:aj}{k:IntKind}{n:Int}(i:Nat)(a8:P.underlying t=some .string)(ag:aO E x=some (aE s))(aD:aO E y=some (.int k n))(aN:n=(i:Int))(ar:i<=s.length):
 bx P ⟨d,.slice t x none (some y) none,ty,pos,af,gd⟩ E C (aE (s.take i)):=λa aw w _=>by
 have aB:(⟨s.toArray⟩:ByteArray).size=s.length:=by simp[ByteArray.size]
 simp[execOp,aw.aO ag,aw.aO aD,Instr.sliceAt,Instr.slice,Instr.sliceBounds,aE,run_underlying a8,aB,tK _ aN ar,LK]
theorem aq.part{t e:TypeId}{sz by_:Nat}{g:Bool}{z:List Value}(h:aq enc w F v l)(a8:P.underlying t=some (.slice e))(he:ey P e=some (g,sz,by_,z))(dI:∀x,(enc x).length=sz)
 {c0 ar:Option Value} (i j:Nat) (Ci:(c0=none/\i=0)\/∃k n,c0=some (.int k n)/\n=(i:Int)) (p3:(ar=none/\j=l.length)\/∃k n,ar=some (.int k n)/\n=(j:Int)) (mY:i<=j) (bo:j<=l.length) :
 ∃gQ,(∀w,(Instr.sliceAt t v c0 ar none).run P w=.ok gQ w)/\aq enc w F gQ ((l.take j).drop i):=by
 have ab:∀(cap:Nat) (ao:l.length<=cap) (w:World),(Instr.sliceBounds true l.length cap c0 ar none).run P w=.ok (i,j,cap) w:=by
  intro cap ao w
  rcases Ci with ⟨rfl,rfl⟩|⟨k,n,rfl,aN⟩<;>rcases p3 with ⟨rfl,rfl⟩|⟨ju,m,rfl,hm⟩
  . simp[Instr.sliceBounds]
  . simp[Instr.sliceBounds,tK _ hm (Nat.le_trans bo ao)]
  . simp[Instr.sliceBounds,tK _ aN mY]
  . simp[Instr.sliceBounds,tK _ hm (Nat.le_trans bo ao),tK _ aN mY]
 obtain⟨a,cap,rfl,ah,aB,bE⟩:=h;have hlen:((l.take j).drop i).length=j-i:=(by rw[List.length_drop,List.length_take];omega);refine⟨.slice (if cap=i then a else a.map (·.add (i*sz))) (j-i) (cap-i),λw=>?_,?_⟩
 . simp[Instr.sliceAt,Instr.slice,run_underlying a8,ab cap ah w,run_sizeOf he]
 . refine⟨_,cap-i,by rw[hlen],by omega,by omega,?_⟩;by_cases aN:(l.take j).drop i=[]
   . exact .inl aN
   . rcases bE with bE|⟨b,off,rfl,c6,eZ⟩
     . exact absurd (by subst bE;simp) aN
     . have iZ:i<j:=by
        rcases Nat.lt_or_ge i j with h|h
        . exact h
        . exact absurd (List.eq_nil_of_length_eq_zero aa) aN
       have ao:cap≠i:=(by omega);refine .inr ⟨b,off+i*sz,by rw[if_neg ao];simp[add_lit],c6,?_⟩;have tL:=rF dI l
       have hle:i*sz+(j-i)*sz<=(l.flatMap enc).length:=by
        rw[tL,<-Nat.add_mul]
        exact Nat.mul_le_mul_right _ aa
       have:=eZ.sub (i*sz) ((j-i)*sz) hle;rw[acy dI,Sp dI,<-List.drop_take] at this;exact this
theorem bx.qX{t:TypeId}{x:Operand}{c0 ar Ss:Option Operand}{v gQ:Value}{Ar uT:Option Value}(ag:aO E x=some v)(Ci:c0.map (aO E)=Ar.map some)(p3:ar.map (aO E)=uT.map some)(acB:Ss=none)
 (h:∀w,(Instr.sliceAt t v Ar uT none).run P w=.ok gQ w):bx P ⟨d,.slice t x c0 ar Ss,ty,pos,af,gd⟩ E C gQ:=λa aw w _=>by
 have h1:c0.map a.eval=Ar:=by
  cases c0<;>cases Ar<;>simp at Ci ⊢
  exact aw.aO Ci
 have ah:ar.map a.eval=uT:=by
  cases ar<;>cases uT<;>simp at p3 ⊢
  exact aw.aO p3
 subst acB
 simp[execOp,aw.aO ag,h1,ah,h w]
theorem bx.build{t:TypeId}{hq:Array (Nat×Operand)}{vs:Array (Nat×Value)}{v:Value}(hp:(hq.toList.map λp=>(aO E p.2).map (p.1,·))=vs.toList.map some)(a':∀w,(Instr.build t vs).run P w=.ok v w):
 bx P ⟨d,.build t hq,ty,pos,af,gd⟩ E C v:=λa aw w _=>by
 have h1:(hq.map λ(i,x)=>(i,a.eval x))=vs:=by
  apply Array.ext'
  rw[Array.toList_map]
  have aux:∀(l:List (Nat×Operand)) (r:List (Nat×Value)),(l.map λp=>(aO E p.2).map (p.1,·))=r.map some->l.map (λx=>(x.1,a.eval x.2))=r:=by
   intro l
   induction l with
   | nil=>intro r h;cases r<;>simp_all
   | cons p l b' =>
    intro r h
    cases r with
    | nil=>simp at h
    | cons q r =>
     simp only[List.map_cons,List.cons.injEq] at h ⊢
     refine⟨?_,b' r h.2⟩
     cases he:aO E p.2 with
     | none=>simp[he] at h
     | some u =>
      simp only[he,Option.map_some,Option.some.injEq] at h
      rw[aw.aO he];exact h.1
  exact aux _ _ hp
 simp only[execOp,h1,Sem.run_bind,a' w,Result.andThen_ok,Sem.run_pure]
end
end Go.aH
namespace Go.aH
open Go
def dv(w:World)(b:Nat)(cs:List Value)(e:TypeId):Prop:=w.heap[b]?=some (.cells cs.toArray e (0,0))
theorem dv.keep{M:Nat->Prop}{w an:World}{b:Nat}{cs:List Value}{e:TypeId}(h:dv w b cs e)(hm:Mod M w an)(ab:¬ M b):dv an b cs e:=hm.keep _ _ h ab
theorem dv.ext{w an:World}{b:Nat}{cs:List Value}{e:TypeId}(h:dv w b cs e)(hm:Ext w an):dv an b cs e:=hm.keep _ _ h (λx=>x)
theorem dv.lt{w:World}{b:Nat}{cs:List Value}{e:TypeId}(h:dv w b cs e):b<w.heap.size:=(Array.getElem?_eq_some_iff.1 h).1
theorem dv.row{w:World}{b:Nat}{cs:List Value}{e:TypeId}(h:dv w b cs e):Row w b 0 cs:=Row.eD h
theorem dv.part{w:World}{b:Nat}{cs:List Value}{e:TypeId}(h:dv w b cs e)(i n:Nat)(aN:i+n<=cs.length):Row w b i ((cs.drop i).take n):=by
 have:=h.row.sub i n aN;simpa using this
theorem dv.cell{w:World}{b:Nat}{cs:List Value}{e:TypeId}(h:dv w b cs e)(i:Nat)(v:Value)(cI:cs[i]?=some v):Row w b i [v]:=by
 have hL:i<cs.length:=(List.getElem?_eq_some_iff.1 cI).1;have:=h.part i 1 aa
 have jd:(cs.drop i).take 1=[v]:=by
  rw[List.drop_eq_getElem_cons hL]
  have:=(List.getElem?_eq_some_iff.1 cI).2
  simp[this]
 rwa[jd] at this
theorem Hy(w:World)(g:Nat)(c:Array Value):Mod (λi=>i=g) w (w.setRow g c):=
 ⟨rfl,rfl,rfl,by simp[World.setRow],λb o ab dG=>by
  rw[setRow_other w g b c (λe=>dG e)];exact ab⟩
section
variable {P:Program} {E:Env} {d:Option Tmp} {ty:TypeId} {pos:String} {af:Array Edge} {gd:Option (Nat×Bool)} {w:World} {K:Value->World->Prop}
theorem gB.box{t:TypeId}{x:Operand}{v:Value}(cs:List Value)(ag:aO E x=some v)(cI:v.cells.toList=cs)(eR:∀an b,Ext w an->b=w.heap.size->an.heap.size=w.heap.size+1->dv an b cs t->K (ptr b 0) an):
 gB P ⟨d,.box t x,ty,pos,af,gd⟩ E w K:=λa aw=>by
 have h:=eR (w.alloc (.cells cs.toArray t)) w.heap.size (Mod.alloc _ _ _) rfl dg (by
  show(w.heap.push _)[w.heap.size]?=_
  simp)
 have e:v.cells=cs.toArray:=by rw[<-cI]
 simp[execOp,aw.aO ag,Instr.box,newVar,newRow,out,e]
 exact h
theorem gB.alloc{t:TypeId}{g:Bool}{n by_:Nat}{z:List Value}(a8:ey P t=some (g,n,by_,z))(eR:∀an b,Ext w an->b=w.heap.size->an.heap.size=w.heap.size+1->dv an b z t->K (ptr b 0) an):
 gB P ⟨d,.alloc t,ty,pos,af,gd⟩ E w K:=λa aw=>by
 have h:=eR (w.alloc (.cells z.toArray t)) w.heap.size (Mod.alloc _ _ _) rfl dg (by
  show(w.heap.push _)[w.heap.size]?=_
  simp)
 obtain⟨jS,cO,a'⟩:=Sl a8 w
 have e:jS.cells=z.toArray:=by rw[<-cO]
 simp[execOp,Instr.alloc,a',newVar,newRow,out,e]
 exact h
theorem gB.store{t e:TypeId}{x y:Operand}{v:Value}{b off n by_:Nat}{g:Bool}{z cs vs:List Value}(a8:ey P t=some (g,n,by_,z))(ag:aO E x=some (ptr b off))(aD:aO E y=some v)
 (cI:v.cells.toList=vs) (aN:vs.length=n) (h1:vs.all (·.oneCell')=true) (ab:dv w b cs e) (bj:off+n<=cs.length)
 (eR:∀an,Mod (λi=>i+1=b+1) w an->an.heap.size=w.heap.size->dv an b (cs.take off++vs++cs.drop (off+n)) e->K undef an):gB P ⟨d,.store t x y,ty,pos,af,gd⟩ E w K:=λa aw=>by
 have mF:=run_storeCells_at P b off e vs 0 cs.toArray w ab (by simp;omega) (λu hu=>List.all_eq_true.1 h1 u hu)
 have dI:v.cells.size=n:=by rw[<-Array.length_toList,cI];exact aN
 have h:=eR (w.setRow b (cs.take off++vs++cs.drop (off+n)).toArray) ((Hy _ _ _).weaken (λi ar _=>by omega)) (by simp[World.setRow]) (by
  have:=setRow_heap w b cs.toArray (cs.take off++vs++cs.drop (off+n)).toArray e (0,0) ab
  exact this)
 simp only[Nat.add_zero,aN] at mF
 simp[execOp,aw.aO ag,aw.aO aD,ptr,Instr.storeAt,Instr.sureAddr,storeVar,run_sizeOf a8,dI,cI,mF,out]
 simpa using h
def b7(P:Program)(g:FuncId):Bool:=
 match P.funcs[g]? with
 | some fn => (!(fn.name == "runtime.NumGoroutine")) && fn.body.isSome
 | none=>false
theorem acC{g:FuncId}(h:b7 P g=true)(args:Array Value)(w:World):(callFunc g args).run P w=.ok (.enter g args) w:=by
 unfold b7 at h
 cases bB:P.funcs[g]? with
 | none=>simp[bB] at h
 | some fn =>
  simp only[bB,Bool.and_eq_true,Bool.not_eq_true'] at h
  have h1 : ¬ (fn.name = "runtime.NumGoroutine") := by simpa using h.1
  cases ab:fn.body with
  | none=>simp[ab] at h
  | some c=>simp[callFunc,bB,h1,ab]
def qY(E:Env):List Operand->Option (List Value)
 | []=>some []
 | x::r=>match aO E x with
  | some v=>match qY E r with
   | some vs=>some (v::vs)
   | none=>none
  | none=>none
theorem Has.qY{a:Act}(aw:Has E a):∀{xs:List Operand} {vs:List Value},aH.qY E xs=some vs->xs.map a.eval=vs
 | [],vs,h=>by simp[aH.qY] at h;simp[h]
 | x::r,vs,h=>by
  simp only[aH.qY] at h
  cases ag:aH.aO E x with
  | none=>simp[ag] at h
  | some v =>
   cases a':aH.qY E r with
   | none=>simp[ag,a'] at h
   | some us =>
    simp only[ag,a',Option.some.injEq] at h
    rw[<-h,List.map_cons,aw.aO ag,Has.qY aw a']
def al(rI:Value->World->Prop):Ending->World->Prop:=λe an=>∃v,e=.returned v/\rI v an
theorem gB.call{g:FuncId}{c:Operand}{xs:List Operand}{ml:Array TypeId}{first cap:List Value}{vs:List Value}{rI:Value->World->Prop}(aU:b7 P g=true)(ao:aO E c=some (.func (.func g) first.toArray cap.toArray))
 (ag:qY E xs=some vs) (h:Calls P g (first++vs++cap).toArray w (al rI)) (eR:∀v an,rI v an->K v an) :
 gB P ⟨d,.call { callee:=.value c,args:=xs.toArray,argTypes:=ml },ty,pos,af,gd⟩ E w K:=λa aw=>by
 have Eu:xs.toArray.map a.eval=vs.toArray:=by
  apply Array.ext'
  simpa using aw.qY ag
 have:(execOp a.eval ⟨d,.call { callee:=.value c,args:=xs.toArray,argTypes:=ml },ty,pos,af,gd⟩).run P w=.ok (.enter g (first++vs++cap).toArray) w:=by
  simp only[execOp,resolve,aw.aO ao,Eu,Deferred.ofValue,Sem.run_bind,Sem.run_pure,Result.andThen_ok,invoke]
  rw[acC aU]
  simp
 rw[this]
 exact Calls.mono h (λe an ⟨v,he,cI⟩=>⟨v,he,eR _ _ cI⟩)
theorem St(P:Program)(sz:Nat):∀(vs:List Value) (k:Nat) (pre rest:List Value),pre.length=k*sz->rest.length=vs.length*sz->(∀v∈vs,v.cells.size=sz) ->
 Instr.fill (λi=>some (i*sz,sz)) (pre++rest).toArray ((vs.zipIdx k).map λp=>(p.2,p.1))=some (pre++vs.flatMap (λv=>v.cells.toList)).toArray
 | [],k,pre,rest,hp,a',h=>by
  have:rest=[]:=List.eq_nil_of_length_eq_zero (by simpa using a')
  simp[Instr.fill,this]
 | v::vs,k,pre,rest,hp,a',h=>by
  have cI:v.cells.size=sz:=h v dg
  have hlen:rest.length=sz+vs.length*sz:=by simpa[Nat.add_mul,Nat.add_comm] using a'
  simp only[List.zipIdx_cons,List.map_cons,Instr.fill]
  have ao:(decide (v.cells.size≠sz) || decide (k*sz+v.cells.size>(pre++rest).toArray.size))=false:=by
   simp[cI,hp,hlen]
  simp only[ne_eq] at ao
  rw[if_neg (by simpa using ao)]
  have acD:∀(cs:List Value) (j:Nat) (arr:Array Value) (Cj v8:List Value) (post:List Value),arr=(Cj++v8++post).toArray->Cj.length=k*sz+j->v8.length=cs.length ->
   (cs.zipIdx j).foldl (λ(a:Array Value) (x:Value×Nat)=>a.setIfInBounds (k*sz+x.2) x.1) arr=(Cj++cs++post).toArray:=by
   intro cs
   induction cs with
   | nil=>intro j arr Cj v8 post aw h1 ah;have:v8=[]:=List.eq_nil_of_length_eq_zero (by simpa using ah);simp[aw,this]
   | cons c cs b' =>
    intro j arr Cj v8 post aw h1 ah
    cases v8 with
    | nil=>simp at ah
    | cons m v8 =>
     simp only[List.zipIdx_cons,List.foldl_cons]
     have:=b' (j+1) (arr.setIfInBounds (k*sz+j) c) (Cj++[c]) v8 post (by
      subst aw
      apply Array.ext'
      rw[Array.toList_setIfInBounds]
      simp only[List.append_assoc,List.cons_append,List.nil_append]
      rw[<-h1,List.set_append_right _ _ (Nat.le_refl _)]
      simp) (by simp[h1];omega) (by simpa using ah)
     simpa using this
  have bB:=acD v.cells.toList 0 (pre++rest).toArray pre (rest.take sz) (rest.drop sz) (by simp[List.append_assoc]) (by simpa using hp) (by simp[cI];omega)
  have cO:(v.cells.zipIdx.foldl (λcs (x:Value×Nat)=>cs.setIfInBounds (k*sz+x.2) x.1) (pre++rest).toArray)=(pre++v.cells.toList++rest.drop sz).toArray:=by
   rw[<-Array.foldl_toList,Array.toList_zipIdx]
   exact bB
  have b':=St P sz vs (k+1) (pre++v.cells.toList) (rest.drop sz) (by simp[hp,cI,Nat.add_mul]) (by simp[hlen]) (λu hu=>h u (by simp[hu]))
  rw[cO]
  simp only[List.flatMap_cons]
  rw[<-List.append_assoc]
  exact b'
theorem gB.buildSlice{t e:TypeId}{len sz by_:Nat}{g:Bool}{z:List Value}{hq:Array (Nat×Operand)}(vs:List Value)(a8:P.underlying t=some (.slice e))(he:ey P e=some (g,sz,by_,z))
 (hp:(hq.toList.map λp=>(aO E p.2).map (p.1,·))=(vs.zipIdx.map λp=>(p.2,p.1)).map some) (hlen:vs.length=len) (dI:(vs.all λv=>v.cells.size==sz)=true) (asC:len*sz<=16777216)
 (eR:∀an b,Ext w an->b=w.heap.size->an.heap.size=w.heap.size+1->dv an b (vs.flatMap λv=>v.cells.toList) e->K (.slice (some ⟨b,0,none⟩) len len) an) :
 gB P ⟨d,.buildSlice t len hq,ty,pos,af,gd⟩ E w K:=λa aw=>by
 have h1:(hq.map λ(i,x)=>(i,a.eval x))=(vs.zipIdx.map λp=>(p.2,p.1)).toArray:=by
  apply Array.ext'
  rw[Array.toList_map]
  have aux:∀(l:List (Nat×Operand)) (r:List (Nat×Value)),(l.map λp=>(aO E p.2).map (p.1,·))=r.map some->l.map (λx=>(x.1,a.eval x.2))=r:=by
   intro l
   induction l with
   | nil=>intro r h;cases r<;>simp_all
   | cons p l b' =>
    intro r h
    cases r with
    | nil=>simp at h
    | cons q r =>
     simp only[List.map_cons,List.cons.injEq] at h ⊢
     refine⟨?_,b' r h.2⟩
     cases cI:aO E p.2 with
     | none=>simp[cI] at h
     | some u =>
      simp only[cI,Option.map_some,Option.some.injEq] at h
      rw[aw.aO cI];exact h.1
  exact aux _ _ hp
 obtain⟨jS,cO,a'⟩:=Sl he w
 have fV:∀v∈vs,v.cells.size=sz:=λv cI=>by have:=List.all_eq_true.1 dI v cI;simpa using this
 have nE:¬ (16777216<len*sz):=by omega
 have h:=eR (w.alloc (.cells (vs.flatMap λv=>v.cells.toList).toArray e)) w.heap.size (Mod.alloc _ _ _) rfl dg (by
  show(w.heap.push _)[w.heap.size]?=_
  simp)
 have key:∀nG:Array Value,nG.size=len*sz->Instr.fill (λi=>some (i*sz,sz)) nG (vs.zipIdx.map λp=>(p.2,p.1))=some (vs.flatMap λv=>v.cells.toList).toArray:=λnG v_=>by
  have:=St P sz vs 0 [] nG.toList dg (by simp[v_,hlen]) fV
  simpa using this
 by_cases bK:len*sz=0
 . have hk:=key (Array.map (λ_=>default) (Array.range 0)) (by simpa using bK.symm)
   simp[execOp,h1,Instr.buildSlice,run_underlying a8,run_sizeOf he,bK,out,newRow,hk]
   exact h
 . have hk:=key ((Array.range (len*sz)).map (jS.cells[· % jS.cells.size]!)) dg
   simp[execOp,h1,Instr.buildSlice,run_underlying a8,run_sizeOf he,bK,nE,a',out,newRow,hk]
   exact h
end
def b_(g:Nat):Nat->Prop:=λb=>b+1=g
def dq(c0 ar:Nat):Nat->Prop:=λb=>c0<=b/\b<ar
theorem Mod.gj{g:Nat}{w an:World}(h:Ext w an):Mod (b_ g) w an:=Ext.mod h _
theorem Mod.Ev{w an:World}(h:Mod (b_ 0) w an):Ext w an:=h.weaken (λi ar _=>by simp[b_] at ar)
theorem Ext.hb{g:Nat}{w0 w an:World}(h:Ext w0 w)(k:Mod (b_ g) w an)(aU:g=0\/w0.heap.size<g):Ext w0 an:=
 h.then k (λi ar bj=>by unfold b_ at ar;omega)
theorem Mod.hb{g g0:Nat}{w0 w an:World}(h:Mod (b_ g0) w0 w)(k:Mod (b_ g) w an)(aU:g=0\/w0.heap.size<g\/g=g0):Mod (b_ g0) w0 an:=
 h.then k (λi ar bj=>by unfold b_ at *;omega)
theorem aq.cB{α:Type}{enc:α->List Value}{w:World}{c0 ar Ar uT:Nat}{v:Value}{l:List α}(h:aq enc w (dq c0 ar) v l)(h1:Ar<=c0)(ah:ar<=uT):aq enc w (dq Ar uT) v l:=
 h.mono λb ab=>by unfold dq at *;omega
theorem aq.bF{α:Type}{enc:α->List Value}{w an:World}{c0 ar g:Nat}{v:Value}{l:List α}(h:aq enc w (dq c0 ar) v l)(hm:Mod (b_ g) w an)(aU:g<=c0\/ar<g):aq enc an (dq c0 ar) v l:=
 h.keep hm λb ab ag=>by unfold dq b_ at *;omega
theorem Row.bF{w an:World}{b off g:Nat}{cs:List Value}(h:Row w b off cs)(hm:Mod (b_ g) w an)(aU:b+1≠g):Row an b off cs:=h.keep hm aU
theorem dv.bF{w an:World}{b g:Nat}{cs:List Value}{e:TypeId}(h:dv w b cs e)(hm:Mod (b_ g) w an)(aU:b+1≠g):dv an b cs e:=h.keep hm aU
section
variable {α:Type}
def Acc(enc:α->List Value)(e:TypeId)(sz:Nat)(w:World)(g:Nat)(v:Value)(l:List α):Prop:=
 (v=.slice none 0 0/\l=[]/\g=0) \/
 ∃b cap cur,g=b+1/\v=.slice (some ⟨b,0,none⟩) l.length cap/\w.heap[b]?=some (.cells cur e (0,0))/\l.length<=cap/\cap<=maxLen/\cur.size=cap*sz/\cur.toList.take (l.length*sz)=l.flatMap enc
variable {enc:α->List Value} {e:TypeId} {sz:Nat} {w:World} {g:Nat} {v:Value} {l:List α}
theorem Acc.nil:Acc enc e sz w 0 (.slice none 0 0) []:=.inl ⟨rfl,rfl,rfl⟩
theorem Acc.keep{M:Nat->Prop}{an:World}(h:Acc enc e sz w g v l)(hm:Mod M w an)(aU:∀b,g=b+1->¬ M b):Acc enc e sz an g v l:=by
 rcases h with h|⟨b,cap,cur,bK,h1,ah,aB⟩
 . exact .inl h
 . exact .inr ⟨b,cap,cur,bK,h1,hm.keep _ _ ah (aU b bK),aB⟩
theorem Acc.ext{an:World}(h:Acc enc e sz w g v l)(hm:Ext w an):Acc enc e sz an g v l:=h.keep hm (λ_ _ x=>x)
theorem Acc.bF{fv:Nat}{an:World}(h:Acc enc e sz w g v l)(hm:Mod (b_ fv) w an)(aU:g≠fv\/g=0):Acc enc e sz an g v l:=
 h.keep hm λb ab ag=>by unfold b_ at ag;omega
theorem Acc.lt(h:Acc enc e sz w g v l):g<=w.heap.size:=by
 rcases h with ⟨_,_,h⟩|⟨b,cap,cur,bK,_,ah,_⟩
 . omega
 . have:=(Array.getElem?_eq_some_iff.1 ah).1;omega
theorem Acc.le(h:Acc enc e sz w g v l):l.length<=9223372036854775807:=by
 rcases h with ⟨_,h,_⟩|⟨b,cap,cur,_,_,_,aB,bE,_⟩
 . simp[h]
 . exact Nat.le_trans aB bE
theorem Acc.ch(h:Acc enc e sz w g v l):aq enc w (dq (g-1) g) v l:=by
 rcases h with ⟨h,gN,_⟩|⟨b,cap,cur,bK,h1,ah,aB,bE,c6,eZ⟩
 . subst gN;exact h▸aq.nil
 . refine⟨_,cap,h1,aB,bE,.inr ⟨b,0,rfl,by unfold dq;omega,λi u hu=>?_⟩⟩;rw[<-eZ,List.getElem?_take] at hu;split at hu
   . rw[cell_of_row w b (0+i) cur e (0,0) ah];simpa using hu
   . cases hu
theorem Acc.fresh{B:Nat}(h:Acc enc e sz w g v l)(aU:g=0\/B<g):aq enc w (dq B w.heap.size) v l:=by
 have bj:=h.lt;rcases aU with bK|bK
 . rcases h with ⟨h,gN,_⟩|⟨b,_,_,h1,_⟩
   . subst gN;exact h▸aq.nil
   . omega
 . exact h.ch.cB aa bj
theorem Acc.append{P:Program}(h:Acc enc e sz w g v l){t ty:TypeId}{fR:Bool}{by_:Nat}{z:List Value}(a8:P.underlying t=some (.slice e))(he:ey P e=some (fR,sz,by_,z))(cO:z.length=sz)
 (dI:∀x,(enc x).length=sz) (h1:∀x,(enc x).all (·.oneCell')=true) {F:Nat->Prop} {v2:Value} {dL:List α} (aT:aq enc w F v2 dL) (xp:(l.length+dL.length)*by_<=140737488355328) (tM:l.length+dL.length<=maxLen) :
 ∃gQ fv an,(Builtin.append_ #[t,t] ty #[v,v2]).run P w=.ok gQ an/\Acc enc e sz an fv gQ (l++dL)/\Mod (b_ g) w an/\(fv=g\/w.heap.size<fv):=by
 obtain⟨i,jD,jS,rJ,i2,i3,i4,i5,Ew,Su⟩:=Ch he
 have Hz:∀u∈dL.flatMap enc,u.oneCell'=true:=λu hu=>by
  obtain⟨x,_,ag⟩:=List.mem_flatMap.1 hu
  exact List.all_eq_true.1 (h1 x) u ag
 have dr:(dL.flatMap enc).length=dL.length*i.size:=(by rw[rF dI,i4]);have mm:(l.flatMap enc).length=l.length*i.size:=(by rw[rF dI,i4]);have v_:jS.cells.size=sz:=(by rw[<-Array.length_toList,Ew,cO]);have Sv:l.length+dL.length<=9223372036854775807:=tM;-- acE acF cells
 obtain⟨a2,As,rfl,Ex,aA,aT⟩:=aT;by_cases tN:dL=[]
 . -- nothing is acF
   subst tN;refine⟨v,g,w,?_,by simpa using h,Mod.refl _ _,.inl rfl⟩
   have Sw:(Builtin.firstCells i.size 0 (.slice a2 0 As)).run P w=.ok #[] w:=by
    cases a2<;>simp[Builtin.firstCells,loadCells,loadCellsFrom]
   rcases h with ⟨rfl,rfl,_⟩|⟨b,cap,cur,_,rfl,aU,uU,_⟩
   . simp[Builtin.append_,run_underlying a8,sizeOf,typeInfo,rJ,Builtin.lenOf,Sw]
   . simp[Builtin.append_,run_underlying a8,sizeOf,typeInfo,rJ,Builtin.lenOf,uU,Sw,storeCells]
 . obtain⟨aR,pz,rfl,bs,c3⟩:∃aR pz,a2=some (⟨aR,pz,none⟩:Addr)/\F aR/\Row w aR pz (dL.flatMap enc):=by
    rcases aT with h|⟨aR,pz,h1,ah,aB⟩
    . exact absurd h tN
    . exact⟨aR,pz,h1,ah,aB⟩
   have Ey:∀j u,(dL.flatMap enc)[j]?=some u->w.cell? ((⟨aR,pz,none⟩:Addr).add j)=some u:=λj u hu=>by
    rw[add_lit];exact c3.cell j u hu
   have fresh:∀(n':Nat),n'<l.length+dL.length->∀a1:World,a1=w.drew.alloc (.cells ((l.flatMap enc).toArray++(dL.flatMap enc).toArray++Builtin.zeroCells jS.cells (grownCap w (l.length+dL.length) n' e-(l.length+dL.length))) e) ->
    Acc enc e sz a1 (w.heap.size+1) (.slice (some ⟨w.heap.size,0,none⟩) (l.length+dL.length) (grownCap w (l.length+dL.length) n' e)) (l++dL)/\Mod (b_ g) w a1:=by
    intro n' eh a1 eG
    subst eG
    have yH:=grownCap_ge w (l.length+dL.length) n' e
    have sZ:grownCap w (l.length+dL.length) n' e<=maxLen:=grownCap_le_maxLen w (l.length+dL.length) n' e tM
    refine⟨.inr ⟨_,_,_,rfl,by rw[List.length_append],heap_alloc_new w.drew _,by rw[List.length_append];exact yH,sZ,?_,?_⟩,?_⟩
    . simp only[Array.size_append,List.size_toArray,size_zeroCells,v_,mm,dr,i4,<-Nat.add_mul]
      congr 1
      omega
    . simp only[Array.toList_append,List.flatMap_append]
      have fS:(l++dL).length*sz=((l.flatMap enc)++(dL.flatMap enc)).length:=by rw[List.length_append,List.length_append,mm,dr,i4,Nat.add_mul]
      rw[fS]
      exact List.take_left
    . exact(Mod.drew _ w).trans (Mod.alloc _ _ _)
   rcases h with ⟨rfl,rfl,rfl⟩|⟨b,cap,cur,rfl,rfl,aU,uU,sZ,jU,Sx⟩
   . by_cases bK:dL.length=0
     . have:dL=[]:=List.eq_nil_of_length_eq_zero bK
       subst this;refine⟨.slice none 0 0,0,w,?_,Acc.nil,Mod.refl _ _,.inl rfl⟩;simp[Builtin.append_,run_underlying a8,sizeOf,typeInfo,rJ,Builtin.lenOf,Builtin.firstCells,loadCells,loadCellsFrom]
     . have tO:dL.length*i.bytes<=281474976710656:=by
        have ab:=xp;simp only[List.length_nil,Nat.zero_add] at ab;rw[i5];omega
       have a':=run_append_nil (P:=P) w t ty e i jS a8 rJ i3 ⟨aR,pz,none⟩ dL.length As (dL.flatMap enc) dr Ey aa (by have:=Sv;simp only[List.length_nil,Nat.zero_add] at this;omega) tO;have bB:=fresh 0 (by simp;omega) _ rfl;simp only[List.length_nil,Nat.zero_add,List.flatMap_nil,List.nil_append,Array.empty_append] at bB;exact⟨_,_,_,a',bB.1,bB.2,.inr (Nat.lt_succ_self _)⟩
   . by_cases Ck:l.length+dL.length<=cap
     . have acG:l.length*i.size+(dL.flatMap enc).length<=cur.size:=(by rw[dr,jU,i4,<-Nat.add_mul];exact Nat.mul_le_mul_right _ Ck);have a':=run_append_room (P:=P) w t ty e i a8 rJ b l.length cap cur aU ⟨aR,pz,none⟩ dL.length As (dL.flatMap enc) dr Ey Hz Ck acG;refine⟨_,b+1,_,a',.inr ⟨b,cap,_,rfl,by rw[List.length_append],setRow_heap w b cur _ e _ aU,by rw[List.length_append];exact Ck,sZ,?_,?_⟩,(Hy _ _ _).weaken (λi ar _=>by unfold b_;omega),.inl rfl⟩
       . simp only[List.size_toArray,List.length_append,List.length_take,List.length_drop,Array.length_toList];omega
       . rw[i4,Sx,List.flatMap_append];have fS:(l++dL).length*sz=((l.flatMap enc)++(dL.flatMap enc)).length:=(by rw[List.length_append,List.length_append,mm,dr,i4,Nat.add_mul]);rw[fS];exact List.take_left
     . have holds:∀j u,(l.flatMap enc)[j]?=some u->w.cell? ((⟨b,0,none⟩:Addr).add j)=some u:=λj u hu=>by
        rw[add_lit,cell_of_row w b (0+j) cur e (0,0) aU]
        rw[<-Sx,List.getElem?_take] at hu
        split at hu
        . simpa using hu
        . cases hu
       have a':=run_append_grow (P:=P) w t ty e i jS a8 rJ i3 ⟨b,0,none⟩ l.length cap (l.flatMap enc) mm holds ⟨aR,pz,none⟩ dL.length As (dL.flatMap enc) dr Ey aa aa (by rw[i5];exact growslice_fits aa xp);have bB:=fresh cap aa _ rfl;exact⟨_,_,_,a',bB.1,bB.2,.inr (Nat.lt_succ_self _)⟩
theorem gB.append{P:Program}{E:Env}{d:Option Tmp}{ty:TypeId}{pos:String}{af:Array Edge}{gd:Option (Nat×Bool)}{K:Value->World->Prop}{t:TypeId}{x y:Operand}{fR:Bool}{by_:Nat}{z:List Value}{F:Nat->Prop}{v2:Value}{dL:List α}
 (h:Acc enc e sz w g v l) (a8:P.underlying t=some (.slice e)) (he:ey P e=some (fR,sz,by_,z)) (cO:z.length=sz)
 (dI:∀x,(enc x).length=sz) (h1:∀x,(enc x).all (·.oneCell')=true) (ag:aO E x=some v) (aD:aO E y=some v2) (aT:aq enc w F v2 dL) (xp:(l.length+dL.length)*by_<=140737488355328) (tM:l.length+dL.length<=maxLen)
 (eR:∀gQ fv an,Acc enc e sz an fv gQ (l++dL)->Mod (b_ g) w an->(fv=g\/w.heap.size<fv)->w.heap.size<=an.heap.size->K gQ an) :
 gB P ⟨d,.call { callee:=.builtin .append,args:=#[x,y],argTypes:=#[t,t] },ty,pos,af,gd⟩ E w K:=λa aw=>by
 obtain⟨gQ,fv,an,a',ah,aB,bE⟩:=h.append (ty:=ty) a8 he cO dI h1 aT xp tM
 simp only[execOp,resolve,invoke,builtin,Sem.run_bind,Sem.run_pure,Result.andThen_ok,List.map_toArray,List.map_cons,List.map_nil,aw.aO ag,aw.aO aD,a',out]
 exact eR _ _ _ ah aB bE aB.size
end
theorem aq.eD{α:Type}{enc:α->List Value}{w:World}{b:Nat}{e:TypeId}{cs:List Value}(h:dv w b cs e)(l:List α)(n:Nat)(ao:cs=l.flatMap enc)(aN:l.length=n)(hm:n<=maxLen):aq enc w (dq b (b+1)) (.slice (some ⟨b,0,none⟩) n n) l:=by
 subst aN;exact⟨_,l.length,rfl,Nat.le_refl _,hm,.inr ⟨b,0,rfl,by unfold dq;omega,by rw[<-ao];exact h.row⟩⟩
theorem Acc.eD{α:Type}{enc:α->List Value}{w:World}{b:Nat}{e:TypeId}{sz:Nat}{cs:List Value}(h:dv w b cs e)(l:List α)(n:Nat)(ao:cs=l.flatMap enc)(dI:∀x,(enc x).length=sz)(aN:l.length=n)(hm:n<=maxLen):Acc enc e sz w (b+1) (.slice (some ⟨b,0,none⟩) n n) l:=by
 subst aN;have bj:=rF dI l;refine .inr ⟨b,l.length,cs.toArray,rfl,rfl,h,Nat.le_refl _,hm,by rw[ao];simpa using bj,?_⟩;rw[ao,<-bj];exact List.take_length
def dec(s:aj):Nat×Nat:=Utf8.decode ⟨s.toArray⟩ 0
theorem Sy(s:aj)(n:Nat):Utf8.decode ⟨s.toArray⟩ n=dec (s.drop n):=by
 have h:=Lib.tail_decode ⟨s.toArray⟩ n 0
 have e:(⟨s.toArray⟩:ByteArray).extract n (⟨s.toArray⟩:ByteArray).size=⟨(s.drop n).toArray⟩:=by
  rw[LK]
  have:(⟨s.toArray⟩:ByteArray).size=s.length:=by simp[ByteArray.size]
  rw[this,List.take_length]
 rw[e] at h;simpa[dec] using h.symm
theorem yI(s:aj)(h:s≠[]):1<=(dec s).2:=by
 refine Lib.decode_width_pos _ _ ?_
 cases s with
 | nil=>exact absurd rfl h
 | cons a s=>simp[ByteArray.size]
theorem Cl(s:aj)(h:s≠[]):(dec s).2<=s.length:=by
 have dI:(⟨s.toArray⟩:ByteArray).size=s.length:=by simp[ByteArray.size]
 cases s with
 | nil=>exact absurd rfl h
 | cons a s =>
  unfold dec Utf8.decode;simp only[dI,List.length_cons];repeat' split
  all_goals simp_all
  all_goals omega
theorem Sz(s:aj):(dec s).1<=1114111:=by
 unfold dec Utf8.decode Utf8.runeError;simp only;repeat' split
 all_goals simp_all[Utf8.valid]
 all_goals omega
def sk(w:World)(b:Nat)(s:aj)(pos:Nat):Prop:=w.heap[b]?=some (.stringIter ⟨s.toArray⟩ pos)
theorem sk.bF{w an:World}{b g:Nat}{s:aj}{pos:Nat}(h:sk w b s pos)(hm:Mod (b_ g) w an)(aU:b+1≠g):sk an b s pos:=hm.keep _ _ h aU
theorem sk.ext{w an:World}{b:Nat}{s:aj}{pos:Nat}(h:sk w b s pos)(hm:Ext w an):sk an b s pos:=hm.keep _ _ h (λx=>x)
theorem sk.lt{w:World}{b:Nat}{s:aj}{pos:Nat}(h:sk w b s pos):b<w.heap.size:=(Array.getElem?_eq_some_iff.1 h).1
section
variable {P:Program} {E:Env} {d:Option Tmp} {ty:TypeId} {pos:String} {af:Array Edge} {gd:Option (Nat×Bool)} {w:World} {K:Value->World->Prop}
theorem gB.LN{t:TypeId}{x:Operand}{s:aj}(a8:P.underlying t=some .string)(ag:aO E x=some (aE s))
 (eR:∀an b,Ext w an->b=w.heap.size->an.heap.size=w.heap.size+1->sk an b s 0->K (ptr b 0) an):gB P ⟨d,.range t x,ty,pos,af,gd⟩ E w K:=λa aw=>by
 have h:=eR (w.alloc (.stringIter ⟨s.toArray⟩ 0)) w.heap.size (Mod.alloc _ _ _) rfl dg (by
  show(w.heap.push _)[w.heap.size]?=_
  simp)
 simp[execOp,aw.aO ag,Instr.range,aE,run_underlying a8,out]
 exact h
theorem gB.iD{x:Operand}{s:aj}{b i:Nat}(ag:aO E x=some (ptr b 0))(ar:sk w b s i)(acH:s.drop i=[]->K (.tuple #[.bool false]) w)
 (eR:∀an,s.drop i≠[]->Mod (b_ (b+1)) w an->an.heap.size=w.heap.size->sk an b s (i+(dec (s.drop i)).2)->K (.tuple #[.bool true,.int .i64 i,.int .i32 ((dec (s.drop i)).1:Int)]) an) :
 gB P ⟨d,.next x true,ty,pos,af,gd⟩ E w K:=λa aw=>by
 have aB:(⟨s.toArray⟩:ByteArray).size=s.length:=by simp[ByteArray.size]
 by_cases bj:i<s.length
 . have dG:s.drop i≠[]:=λe=>by have:=congrArg List.length e;simp at this;omega
   have h:=eR { w with heap:=w.heap.setIfInBounds b (.stringIter ⟨s.toArray⟩ (i+(dec (s.drop i)).2)) } dG
    ⟨rfl,rfl,rfl,by simp,λk o hk aN=>by
     have:b≠k:=λe=>aN (by unfold b_;omega)
     show(w.heap.setIfInBounds b _)[k]?=_
     rw[Array.getElem?_setIfInBounds_ne this];exact hk⟩ dg (by
     show(w.heap.setIfInBounds b _)[b]?=_
     have ab:=ar.lt
     simp[ab])
   have aU:w.heap[b]?=some (.stringIter ⟨s.toArray⟩ i):=ar
   simp[execOp,aw.aO ag,ptr,Instr.next,getObj,setObj,Sem.run,aU,aB,bj,Sy,goInt,out]
   exact h
 . have he:s.drop i=[]:=List.drop_of_length_le aa
   have aU:w.heap[b]?=some (.stringIter ⟨s.toArray⟩ i):=ar
   simp[execOp,aw.aO ag,ptr,Instr.next,getObj,Sem.run,aU,aB,bj,out]
   exact acH he
end
end Go.aH
namespace Go.aH
open Go
section
variable {P:Program} {f:FuncId} {R:Ending->World->Prop} {n:Nat}
def Ez:Nat->List Value->Env
 | _,[]=>[]
 | i,v::r=>(i,v)::Ez (i+1) r
theorem SA:∀(vs:List Value) (j i:Nat) (v:Value),mE i (Ez j vs)=some v->j<=i/\vs[i-j]?=some v
 | [],_,_,_,h=>by simp[Ez,mE] at h
 | u::r,j,i,v,h=>by
  simp only[Ez,mE] at h
  cases ab:Nat.beq i j with
  | true =>
   have:=Nat.eq_of_beq_eq_true ab
   simp only[ab,Option.some.injEq] at h
   subst this
   simp[h]
  | false =>
   simp only[ab] at h
   obtain⟨h1,ah⟩:=SA r (j+1) i v h
   refine⟨by omega,?_⟩
   have:i-j=(i-(j+1))+1:=by omega
   rw[this]
   simpa using ah
theorem bR{fn:Func}{c:Code}{vs:List Value}{w:World}(bB:P.funcs[f]?=some fn)(ab:fn.body=some c)(aN:fn.ntmps=n)(hle:Nat.ble vs.length n=true)
 (h:hs P f R n (Ez 0 vs) [.code c] w):Calls P f vs.toArray w R:=
 abW bB ab (h _ ⟨by have:=Nat.le_of_ble_eq_true hle;simp[aN];omega,rfl,λi v cI=>by
  obtain⟨_,ah⟩:=SA vs 0 i v cI
  simp only[Nat.sub_zero] at ah
  have hL:=(List.getElem?_eq_some_iff.1 ah).1
  simp only[Array.getD_eq_getD_getElem?]
  rw[Array.getElem?_append_left (by simpa using hL)]
  simp[ah]⟩)
theorem fJ.dc{ops:Array Oper}{o:Oper}{l:List Oper}{E:Env}{k:List Item}{w:World}{m':Bool}(dH:bx P o E (λan=>an=w) (.bool m'))
 (hw:want n ops E o.guard=some true) (hd:kh n o.dst=true) (h:∀b:Bool,b=m'->fJ P f R n ops l (pu o.dst (.bool b) E) k w):fJ P f R n ops (o::l) E k w:=
 fJ.q dH hw hd (h m' rfl)
theorem hN.dc{C:World->Prop}{A:Nat->Bool}{Z:Nat}{ops:Array Oper}{o:Oper}{i:Nat}{l:List Nat}{E:Env}{k:List Item}{w:World}{m':Bool}(eh:ops[i]?=some o)(bf:A i=false)(dH:bx P o E C (.bool m'))
 (hw:want n ops E o.guard=some true) (hd:kh n o.dst=true) (h:∀b:Bool,b=m'->hN P f R n C A Z ops l (pu o.dst (.bool b) E) k w):hN P f R n C A Z ops (i::l) E k w:=
 hN.q eh bf dH hw hd (h m' rfl)
theorem eV(A:Nat->Bool)(Z:Nat)(C:World->Prop){id:Nat}{ops:Array Oper}{E:Env}{k:List Item}{w:World}(hm:P.follows .mixedOrders=true){l:List Nat}
 (h:∀ai,Ext w ai->C ai/\hN P f R n C A Z ops l E k ai) (fX:Cd ops A Z=true:=by kernel_rfl) (bj:List.range' 0 ops.size=l:=by exact rfl):hs P f R n E (.code (.region id ops true)::k) w:=
 aco A Z C hm fX (bj▸h w.drew (Mod.drew _ _))
end
section
variable {P:Program} {E:Env} {d:Option Tmp} {ty:TypeId} {pos:String} {af:Array Edge} {gd:Option (Nat×Bool)} {w:World} {K:Value->World->Prop}
theorem gB.aF{g:FuncId}{xs:List Operand}{ml:Array TypeId}{vs:List Value}{rI:Value->World->Prop}(aU:b7 P g=true)
 (ag:qY E xs=some vs) (h:Calls P g vs.toArray w (al rI)) (eR:∀v an,rI v an->K v an) :
 gB P ⟨d,.call { callee:=.value (.func g),args:=xs.toArray,argTypes:=ml },ty,pos,af,gd⟩ E w K:=
 gB.call (first:=[]) (cap:=[]) aU rfl ag (by simpa using h) eR
theorem gB.acI {g : FuncId} {fn : Func} {e : Array Value → Sem Value} {xs : List Operand} {ml : Array TypeId} {vs : List Value} {v : Value} (bB : P.funcs[g]? = some fn) (acJ : (fn.name == "runtime.NumGoroutine") = false)
 (ab:fn.body.isNone=true) (aN:Extern.findNext fn=none) (he:Extern.find fn=some e) (ag:qY E xs=some vs) (a':(e vs.toArray).run P w=.ok v w) (eR:K v w) :
 gB P ⟨d,.call { callee:=.value (.func g),args:=xs.toArray,argTypes:=ml },ty,pos,af,gd⟩ E w K:=λa aw=>by
 have Eu:xs.toArray.map a.eval=vs.toArray:=by
  apply Array.ext'
  simpa using aw.qY ag
 have:(execOp a.eval ⟨d,.call { callee:=.value (.func g),args:=xs.toArray,argTypes:=ml },ty,pos,af,gd⟩).run P w=.ok (.value v) w:=by
  have acK:a.eval (.func g)=.func (.func g) #[] #[]:=rfl
  simp only[execOp,resolve,acK,Eu,Deferred.ofValue,Sem.run_bind,Sem.run_pure,Result.andThen_ok,invoke,Array.append_empty,Array.empty_append]
  rw[run_callFunc_extern bB acJ ab aN he,a']
  rfl
 rw[this]
 exact eR
end
theorem aq.fK{α:Type}{enc:α->List Value}{w:World}{c0 up:Nat}{v:Value}{l:List α}(h:aq enc w (dq c0 up) v l){P:Program}{t e:TypeId}{sz by_:Nat}{g:Bool}{z:List Value}(a8:P.underlying t=some (.slice e))(he:ey P e=some (g,sz,by_,z))(dI:∀x,(enc x).length=sz){k:IntKind}{n:Int}(i:Nat)(aN:n=(i:Int))(ar:i<l.length):
 ∃x b off,l[i]?=some x/\(∀w,(Instr.indexAt t v (.int k n)).run P w=.ok (ptr b off) w)/\c0<=b/\b<up/\Row w b off (enc x):=by
 obtain⟨b,off,h1,ah,aB⟩:=h.at a8 he dI (k:=k) i aN ar;exact⟨l[i],b,off,by simp,h1,ah.1,ah.2,aB⟩
theorem aq.cast{α:Type}{enc:α->List Value}{w:World}{F:Nat->Prop}{v:Value}{l jV:List α}(h:aq enc w F v l)(e:l=jV):aq enc w F v jV:=e▸h
def encI(n:Int):List Value:=[.int .i64 n]
def eA(b:UInt8):List Value:=[.int .u8 (b.toNat:Int)]
def iO(n:Int):List Value:=[.int .i32 n]
def cC(s:aj):List Value:=[aE s]
theorem gH(x:Int):(encI x).length=1:=rfl
theorem oa(x:UInt8):(eA x).length=1:=rfl
theorem oE(x:Int):(iO x).length=1:=rfl
theorem iE(x:aj):(cC x).length=1:=rfl
theorem xq(x:Int):(encI x).all (·.oneCell')=true:=rfl
theorem Cm(x:UInt8):(eA x).all (·.oneCell')=true:=rfl
theorem EA(x:Int):(iO x).all (·.oneCell')=true:=rfl
theorem yJ(x:aj):(cC x).all (·.oneCell')=true:=rfl
abbrev bY(n:Int):Prop:=-9223372036854775808<=n/\n<=9223372036854775807
theorem al.mk{rI:Value->World->Prop}{v:Value}{w:World}(h:rI v w):al rI (.returned v) w:=⟨v,rfl,h⟩
section
variable {P:Program} {f:FuncId} {rI:Value->World->Prop} {n:Nat} {E:Env} {k:List Item} {w:World} {fn:Func} {t u:Tmp} {v x:Value}
theorem ob(bB:P.funcs[f]?=some fn)(fm:rI v w)(oD:fn.results=#[.tmp t]:=by exact rfl)(cI:mE t E=some v:=by exact rfl):hs P f (al rI) n E (.code .ret::k) w:=aM bB oD cI (al.mk fm)
theorem Au(bB:P.funcs[f]?=some fn)(fm:rI (.tuple #[v,x]) w)(oD:fn.results=#[.tmp t,.tmp u]:=by exact rfl)(cI:mE t E=some v:=by exact rfl)(ag:mE u E=some x:=by exact rfl):hs P f (al rI) n E (.code .ret::k) w:=cJ bB oD cI ag (al.mk fm)
end
theorem LO{α:Type}[BEq α][LawfulBEq α]{a b:α}(h:true=!(a==b)):a≠b:=λe=>by subst e;simp at h
theorem LP{α:Type}[BEq α][LawfulBEq α]{a b:α}(h:false=!(a==b)):a=b:=by
 cases ab:a==b with
 | true=>exact eq_of_beq ab
 | false=>rw[ab] at h;cases h
end Go.aH
namespace Go.aH
open Go Go.WideShapes Go.ChangeShapes Go.RowKit
section
variable {H:Type} {enc:TypeId×Value->H} {P:Program} {W:World}
def yK(P:Program)(t:TypeId){α:Type}(xr:α->List Value)(ok:α->Prop):Prop:=
 ∀{H:Type} {enc:TypeId×Value->H} {W:World} {base:Nat} {spare:Nat->Bool} {held:Bool} (fuel:Nat) (cs:List Value) (x:DataW H×List MemPlace),DataW.trod enc P W base spare held fuel t cs=some x->∃a:α,cs=xr a/\ok a
theorem wf_i64{n:Int}(h:(Lit.int .i64 n).wf=true):bY n:=by
 simp[Lit.wf,IntKind.min,IntKind.max,IntKind.signed,IntKind.bits] at h;unfold bY;omega
theorem nH{t:TypeId}(h:P.underlying t=some (.int .i64)):yK P t encI bY:=λfuel cs x a8=>by
 obtain⟨n,rfl,_,hw⟩:=DataW.trod_int h a8
 exact⟨n,rfl,wf_i64 hw⟩
theorem HA{t:TypeId}(h:P.underlying t=some .string):yK P t cC (λs=>s.length<=9223372036854775807):=λfuel cs x a8=>by
 obtain⟨s,rfl,_,hw⟩:=DataW.trod_string h a8
 exact⟨s.data.toList,by rw[cC,<-acp],hw⟩
def LQ(b:Bool):List Value:=[.bool b]
theorem acL{t:TypeId}(h:P.underlying t=some .bool):yK P t LQ (λ_=>True):=λfuel cs x a8=>by
 obtain⟨b,rfl,_⟩:=DataW.trod_bool h a8
 exact⟨b,rfl,trivial⟩
theorem EB{t:TypeId}{lu:Array Field}(hu:P.underlying t=some (.struct lu)){base:Nat}{spare:Nat->Bool}{held:Bool}{fuel:Nat}{cs:List Value}{x:DataW H×List MemPlace}(h:DataW.trod enc P W base spare held fuel t cs=some x):
 ∃n,cs.length=P.cellsOf t/\∀(i:Nat) (f:Field) (HB off k:Nat),lu[i]?=some f->f.type=HB->f.offset=off->P.cellsOf HB=k->∃y,DataW.trod enc P W base spare held n HB ((cs.drop off).take k)=some y:=by
 obtain⟨xs,n,_,ag,bj,hlen,bB⟩:=DataW.trod_struct hu h;refine⟨n,bj,λi f HB off k ar fS jd tP=>?_⟩;subst fS jd tP;have hL:i<lu.size:=(Array.getElem?_eq_some_iff.1 ar).1;exact⟨xs[i]'aa,by rw[bB i f ar];simp⟩
theorem acM{base:Nat}{a:Addr}{n:Nat}{cs:List Value}(h:W.cells? base a n=some cs)(aN:0<n):∃b off,a=⟨b,off,none⟩/\b<W.heap.size/\cs.length=n/\Row W b off cs:=by
 obtain⟨_,hM,na⟩:=World.cells?_some h;have bK:=na 0 aN;have EC:cs[0]?=some (cs[0]'aa):=List.getElem?_eq_getElem aa;rw[EC] at bK;have j7:a.add 0=a:=(by unfold Addr.add;simp);rw[j7] at bK
 have acN:a.spot=none:=by
  unfold World.cell? at bK
  cases hD:W.heap[a.block]? with
  | none=>rw[hD] at bK;cases bK
  | some LD =>
   rw[hD] at bK
   cases LD<;>simp only[reduceCtorEq] at bK
   cases aT:a.spot with
   | none=>rfl
   | some _=>rw[aT] at bK;simp at bK
 obtain⟨b,off,sp⟩:=a;subst acN;refine⟨b,off,rfl,World.block_lt_of_cell? W _ bK,hM,λi v cI=>?_⟩;have ar:i<n:=(by rw[<-hM];exact(List.getElem?_eq_some_iff.1 cI).1);have:=na i ar;rw[add_lit,cI] at this;exact this
theorem LR {t e : TypeId} {α : Type} {xr : α → List Value} {ok : α → Prop} (bB : yK P e xr ok) (a8 : P.underlying t = some (.slice e)) {sz : Nat} (hC : P.cellsOf e = sz) (bK : 0 < sz) (dI : ∀ x, (xr x).length = sz)
    {spare : Nat → Bool} {held : Bool} {fuel : Nat} {cs : List Value} {x : DataW H × List MemPlace} (h : DataW.trod enc P W 0 spare held fuel t cs = some x) :
    ∃ (v : Value) (l : List α), cs = [v] ∧ aq xr W (dq 0 W.heap.size) v l ∧ ∀ a ∈ l, ok a := by
  rcases Deep.open_slice a8 h with ⟨rfl, _⟩ | ⟨a, len, cap, m, n, D, asD, rfl, _, hle, tM, hm, _, ar⟩
  · exact ⟨_, [], rfl, aq.nil, by simp⟩
  · have acO : len ≤ m := by rw [hm]; split <;> omega
    have key : ∀ i : Nat, i < len → ∃ y : α, ok y ∧ ∃ b off, a.add (i * sz) = ⟨b, off, none⟩ ∧ b < W.heap.size ∧ Row W b off (xr y) := fun i nb => by
      obtain ⟨cs', ao, acP⟩ := ar i aa
      rw [hC] at ao
      obtain ⟨b, off, aw, ab, hM, a'⟩ := acM ao bK
      obtain ⟨y, rfl, aD⟩ := bB _ _ _ acP
      exact ⟨y, aD, b, off, aw, ab, a'⟩
    by_cases tN : len = 0
    · subst tN;exact ⟨_, [], rfl, ⟨some a, cap, rfl, Nat.zero_le _, tM, .inl rfl⟩, by simp⟩
    · -- acE list
      have acQ : ∃ l : List α, l.length = len ∧ ∀ i (ar : i < l.length), ok l[i] ∧ ∃ b off, a.add (i * sz) = ⟨b, off, none⟩ ∧ b < W.heap.size ∧ Row W b off (xr l[i]) := by
        have gen : ∀ n : Nat, n ≤ len → ∃ l : List α, l.length = n ∧ ∀ i (ar : i < l.length), ok l[i] ∧ ∃ b off, a.add (i * sz) = ⟨b, off, none⟩ ∧ b < W.heap.size ∧ Row W b off (xr l[i]) := by
         intro n aN
         induction n with
         | zero => exact ⟨[], rfl, fun i ar => by simp at ar⟩
         | succ k b' =>
          obtain ⟨l, bj, fV⟩ := b' aa
          obtain ⟨y, aD, a'⟩ := key k aa
          refine ⟨l ++ [y], by simp [bj], fun i ar => ?_⟩
          rcases Nat.lt_or_ge i l.length with gN | gN
          · rw [List.getElem_append_left gN]; exact fV i gN
          · have : i = l.length := by simp at ar; omega
            subst this
            rw [List.getElem_append_right (Nat.le_refl _)]
            simp only [Nat.sub_self, List.getElem_cons_zero, bj]
            exact ⟨aD, a'⟩
        exact gen len (Nat.le_refl _)
      obtain ⟨l, bj, fV⟩ := acQ;obtain ⟨_, b, off, aw, ab, _⟩ := fV 0 aa;have acR : a = ⟨b, off, none⟩ :=(by rw [← aw]; unfold Addr.add; simp);subst acR;refine ⟨_, l, rfl, ⟨_, cap, by rw [bj], by omega, tM, .inr ⟨b, off, rfl, ⟨Nat.zero_le _, ab⟩, fun j v cI => ?_⟩⟩, fun y aD => ?_⟩
      · have tL := rF dI l;have bo : j < l.length * sz :=(by rw [← tL]; exact (List.getElem?_eq_some_iff.1 cI).1);have hdiv : j / sz < l.length := Nat.div_lt_of_lt_mul (by rw [Nat.mul_comm]; exact bo);obtain ⟨_, sl, SB, LS, yL, LU⟩ := fV (j / sz) hdiv;rw [add_lit] at LS;simp only [Addr.mk.injEq, and_true] at LS;obtain ⟨rfl, rfl⟩ := LS;have HC := (Hx dI l (j / sz) hdiv).1;have acS : j % sz < sz := Nat.mod_lt _ bK;have SC : j / sz * sz + j % sz = j := Nat.div_add_mod' j sz
        have acT : (xr l[j / sz])[j % sz]? = some v := by
          rw [← HC, List.getElem?_take, if_pos acS, List.getElem?_drop, SC]; exact cI
        have := LU (j % sz) v acT;rw [Nat.add_assoc, SC] at this;exact this
      · obtain ⟨i, uT, rfl⟩ := List.getElem_of_mem aD;exact (fV i uT).1
def HD(P:Program)(ml:List TypeId):Bool:=ml.all λt=>P.readableRec t && decide (t<P.types.size)
theorem SD(bj:laidOutB P=true){Av:World}(Aw:Ext W Av):∀(ml:List TypeId) (vs:List Value) (rH:List (DataW H)) (hq:List MemPlace),HD P ml=true ->
 DataW.TrodAll enc P W 0 (λ_=>true) true ml vs rH hq->DataW.TrodAll enc P Av 0 (λb=>decide (b<W.heap.size)) true ml vs rH hq
 | [],[],[],_,_,h=>h
 | t::ml,v::vs,d::rH,hq,a',h=>by
  obtain⟨p,q,h1,ah,aB⟩:=h
  simp only[HD,List.all_cons,Bool.and_eq_true,decide_eq_true_eq] at a'
  have hL:∀x∈p,x.block<W.heap.size:=by
   obtain⟨fuel,bB⟩:=h1
   exact λx ag=>DataW.trod_lt _ _ _ _ bB x ag
  exact⟨p,q,Below.trod bj a'.1.1 a'.1.2 h1 Aw.below hL,SD bj Aw ml vs rH q (by simpa[HD] using a'.2) ah,aB⟩
 | [],_::_,_,_,_,h=>h.elim
 | [],[],_::_,_,_,h=>h.elim
 | _::_,[],_,_,_,h=>h.elim
 | _::_,_::_,[],_,_,h=>h.elim
theorem acU{f:Func}{s:ChangeSpec}{args:Array Value}{rH gs:List (DataW H)}{before:List MemPlace}{Av:World}{tb:TypeId}(bj:laidOutB P=true)(a':HD P f.params.toList=true)
 (oD:f.resultTypes=#[tb]) (ab:P.underlying tb=some .bool) (SE:s.vars=[]) (oc:DataW.Whole enc P f.params.toList s.vars false W args.toList rH gs before) (Aw:Ext W Av)
 (LV:s.fn H (rH++gs)={ results:=[.lit (.bool true)],args:=rH }):ChangeSpec.post enc P f s false true false false W args (.bool true) Av:=by
 have LW:=oc;obtain⟨p,q,bf,Ax,rfl,HE,gI⟩:=oc
 have dH:gs=[]/\q=[]:=by
  rw[SE] at Ax
  cases gs with
  | nil=>exact⟨rfl,Ax⟩
  | cons _ _=>exact Ax.elim
 obtain⟨rfl,rfl⟩:=dH;refine⟨rH,[],p++[],[],p,[],LW,?_,?_,?_,Aw.below.frame _,λh=>by cases h⟩
 . rw[LV,oD];exact trodAll_cons_mk (shut_bool ab true) trodAll_mk0
 . rw[LV];exact SD bj Aw _ _ _ _ a' bf
 . rw[SE,LV];rfl
end
end Go.aH
namespace Go.ak
open Go.aH
def Cn:Nat->aj->List Nat
 | 0,_=>[]
 | n+1,s=>match s with
  | []=>[]
  | a::r=>(dec (a::r)).1::Cn n ((a::r).drop (dec (a::r)).2)
def hc(s:aj):List Nat:=Cn s.length s
theorem SF:∀(n m:Nat) (s:aj),s.length<=n->s.length<=m->Cn n s=Cn m s
 | 0,0,_,_,_=>rfl
 | 0,m+1,s,h,_=>by
  have:s=[]:=List.eq_nil_of_length_eq_zero aa
  subst this;rfl
 | n+1,0,s,_,h=>by
  have:s=[]:=List.eq_nil_of_length_eq_zero aa
  subst this;rfl
 | n+1,m+1,[],_,_=>rfl
 | n+1,m+1,a::r,h1,ah=>by
  simp only[Cn]
  have hp:=yI (a::r) dg
  rw[SF n m _ (by simp only[List.length_drop,List.length_cons] at *;omega) (by simp only[List.length_drop,List.length_cons] at *;omega)]
theorem xu:hc []=[]:=rfl
theorem xv{s:aj}(h:s≠[]):hc s=(dec s).1::hc (s.drop (dec s).2):=by
 cases s with
 | nil=>exact absurd rfl h
 | cons a r =>
  have hp:=yI (a::r) dg;show(dec (a::r)).1::Cn r.length ((a::r).drop (dec (a::r)).2)=_;rw[SF r.length ((a::r).drop (dec (a::r)).2).length _ (by simp only[List.length_drop,List.length_cons];omega) (Nat.le_refl _)];rfl
theorem SG(s:aj):(hc s).length<=s.length:=by
 have:∀n (s:aj),s.length<=n->(hc s).length<=s.length:=by
  intro n
  induction n with
  | zero=>intro s h;have:s=[]:=List.eq_nil_of_length_eq_zero aa;subst this;simp[xu]
  | succ n b' =>
   intro s h
   by_cases aT:s=[]
   . subst aT;simp[xu]
   . rw[xv aT]
     have hp:=yI s aT
     have bj:=Cl s aT
     have:=b' (s.drop (dec s).2) (by rw[List.length_drop];omega)
     rw[List.length_drop] at this
     rw[List.length_cons];omega
 exact this _ s (Nat.le_refl _)
structure Scan(s:aj)(p:Nat)(pre:List Nat):Prop where
 all:hc s=pre++hc (s.drop p)
 le:p<=s.length
 len:pre.length<=p
theorem Scan.start(s:aj):Scan s 0 []:=⟨by simp,Nat.zero_le _,by simp⟩
theorem Scan.next{s:aj}{p:Nat}{pre:List Nat}(h:Scan s p pre)(he:s.drop p≠[]):Scan s (p+(dec (s.drop p)).2) (pre++[(dec (s.drop p)).1]):=by
 have bj:=Cl _ he;have hp:=yI _ he;rw[List.length_drop] at bj;have:=h.le
 have hL:p<s.length:=by
  rcases Nat.lt_or_ge p s.length with h|h
  . exact h
  . exact absurd (List.drop_of_length_le h) he
 refine⟨?_,by omega,by have:=h.len;simp;omega⟩;rw[h.all,xv he,List.drop_drop];simp
theorem Scan.done{s:aj}{p:Nat}{pre:List Nat}(h:Scan s p pre)(he:s.drop p=[]):hc s=pre:=by
 rw[h.all,he,xu,List.append_nil]
theorem Scan.mem{s:aj}{p:Nat}{pre:List Nat}(h:Scan s p pre)(he:s.drop p≠[]):(dec (s.drop p)).1∈hc s:=by
 rw[h.all,xv he];simp
def iP(s:aj):Int:=if 65533∈hc s then -1 else((hc s).length:Int)
def word(s:aj):Bool:=decide (iP s>=1) && decide (iP s<=12)
def asked(s:aj):Bool:=decide (iP s>=0) && decide (iP s<=16)
structure s0(s:aj)(p k:Nat):Prop where
 ex:∃pre,Scan s p pre/\pre.length=k/\65533∉pre
 le:p<=s.length
 o6:k<=p
theorem s0.start(s:aj):s0 s 0 0:=⟨⟨[],Scan.start s,rfl,by simp⟩,Nat.zero_le _,Nat.le_refl _⟩
theorem s0.v'{s:aj}{p k:Nat}(h:s0 s p k)(he:s.drop p≠[])(hd:((dec (s.drop p)).1:Int)=65533):(-1:Int)=iP s:=by
 obtain⟨pre,h1,ah,aB⟩:=h.ex;have hm:=h1.mem he;have:(dec (s.drop p)).1=65533:=by omega
 rw[this] at hm;simp[iP,hm]
theorem s0.next{s:aj}{p k:Nat}(h:s0 s p k)(he:s.drop p≠[])(hd:((dec (s.drop p)).1:Int)≠65533):s0 s (p+(dec (s.drop p)).2) (k+1):=by
 obtain⟨pre,h1,ah,aB⟩:=h.ex;have aN:=h1.next he;refine⟨⟨_,aN,by simp[ah],?_⟩,aN.le,by have:=aN.len;simp[ah] at this;exact this⟩;simp only[List.mem_append,List.mem_singleton,not_or];exact⟨aB,λe=>hd aa⟩
theorem s0.fin{s:aj}{p k:Nat}(h:s0 s p k)(he:s.drop p=[]):(k:Int)=iP s:=by
 obtain⟨pre,h1,ah,aB⟩:=h.ex;have:=h1.done he;simp[iP,this,aB,ah]
theorem s0.lt{s:aj}{p k:Nat}(h:s0 s p k)(he:s.drop p≠[]):k<s.length:=by
 have:=h.o6
 have:p<s.length:=by
  rcases Nat.lt_or_ge p s.length with h|h
  . exact h
  . exact absurd (List.drop_of_length_le h) he
 omega
theorem acV(s:aj):-1<=iP s:=by unfold iP;split<;>omega
theorem acW(s:aj):iP s<=s.length:=by
 unfold iP;have:=SG s;split<;>omega
def rising:List aj->Bool
 | []=>true
 | [_]=>true
 | a::b::r=>decide (Lib.compareBytes a b<0) && rising (b::r)
def e6(l:List aj):Int:=if l.length>60 then 3 else if l.all word=true then(if rising l=true then 0 else 7) else 6
def wa(l:List aj):Prop:=∀s∈l,s.length<=9223372036854775807
theorem wa.at{l:List aj}(h:wa l){k:Nat}{x:aj}(ag:l[k]?=some x):x.length<=9223372036854775807:=h x (List.mem_of_getElem? ag)
theorem Ay{α:Type}{p:α->Bool}{l:List α}{k:Nat}{x:α}(h:(l.take k).all p=true)(ag:l[k]?=some x)(hp:p x=true):(l.take (k+1)).all p=true:=by
 rw[List.take_add_one,ag];simp_all
theorem HF{α:Type}{p:α->Bool}{l:List α}{k:Nat}(h:(l.take k).all p=true)(hk:l.length<=k):l.all p=true:=by
 rwa[List.take_of_length_le hk] at h
theorem LX{α:Type}{p:α->Bool}{l:List α}{k:Nat}{x:α}(ag:l[k]?=some x)(hp:p x=false):l.all p=false:=by
 rw[List.all_eq_false];exact⟨x,List.mem_of_getElem? ag,by simp[hp]⟩
theorem SH:∀{l:List aj} {k:Nat} {x y:aj},rising (l.take (k+1))=true->l[k]?=some x->l[k+1]?=some y->Lib.compareBytes x y<0->rising (l.take (k+2))=true
 | [],k,x,y,_,ag,_,_=>by simp at ag
 | a::l,0,x,y,h,ag,aD,ao=>by
  cases l with
  | nil=>simp at aD
  | cons b l =>
   simp only[List.getElem?_cons_zero,Option.some.injEq] at ag
   simp only[Nat.zero_add,List.getElem?_cons_succ,List.getElem?_cons_zero,Option.some.injEq] at aD
   subst ag;subst aD
   simp[rising,ao]
 | a::l,k+1,x,y,h,ag,aD,ao=>by
  cases l with
  | nil=>simp at ag
  | cons b l =>
   simp only[List.take_succ_cons,rising,Bool.and_eq_true,decide_eq_true_eq] at h ⊢
   refine⟨h.1,?_⟩
   have:=SH (l:=b::l) (k:=k) (x:=x) (y:=y) (by simpa using h.2) uV (by simpa using aD) ao
   simpa using this
theorem SI:∀{l:List aj} {k:Nat} {x y:aj},l[k]?=some x->l[k+1]?=some y->¬ Lib.compareBytes x y<0->rising l=false
 | [],k,x,y,ag,_,_=>by simp at ag
 | a::l,0,x,y,ag,aD,ao=>by
  cases l with
  | nil=>simp at aD
  | cons b l =>
   simp only[List.getElem?_cons_zero,Option.some.injEq] at ag
   simp only[Nat.zero_add,List.getElem?_cons_succ,List.getElem?_cons_zero,Option.some.injEq] at aD
   subst ag;subst aD
   simp[rising,ao]
 | a::l,k+1,x,y,ag,aD,ao=>by
  cases l with
  | nil=>simp at ag
  | cons b l =>
   have:=SI (l:=b::l) (k:=k) (x:=x) (y:=y) uV (by simpa using aD) ao
   simp[rising,this]
theorem SJ(l:List aj):rising (l.take 1)=true:=by
 cases l<;>rfl
theorem SK{l:List aj}{k:Nat}{x:aj}(Co:¬ ((l.length:Int)>60))(ag:l[k]?=some x)(hw:word x=false):(6:Int)=e6 l:=by
 unfold e6;rw[if_neg aa,if_neg (by rw[LX ag hw];simp)]
theorem acX{l:List aj}{k:Nat}{x y:aj}(Co:¬ ((l.length:Int)>60))(aw:l.all word=true)(ag:l[k]?=some x)(aD:l[k+1]?=some y)(ao:¬ Lib.compareBytes x y<0):(7:Int)=e6 l:=by
 unfold e6;rw[if_neg aa,if_pos aw,if_neg (by rw[SI ag aD ao];simp)]
theorem SL{l:List aj}{k:Nat}(Co:¬ ((l.length:Int)>60))(aw:l.all word=true)(h:rising (l.take k)=true)(hk:l.length<=k):(0:Int)=e6 l:=by
 rw[List.take_of_length_le hk] at h;unfold e6;rw[if_neg aa,if_pos aw,if_pos h]
theorem dec_lt{s:aj}{p:Nat}(h:s.drop p≠[]):1<=(dec (s.drop p)).2/\p+(dec (s.drop p)).2<=s.length:=by
 have h1:=yI _ h;have ah:=Cl _ h;rw[List.length_drop] at ah
 have:p<s.length:=by
  rcases Nat.lt_or_ge p s.length with gN|gN
  . exact gN
  . exact absurd (List.drop_of_length_le gN) h
 omega
theorem HG{s:aj}(h:s.length<=9223372036854775807):bY (iP s):=by
 have h1:=acV s;have ah:=acW s;unfold bY;omega
theorem SM:∀(a b:aj),-1<=Lib.compareBytes a b/\Lib.compareBytes a b<=1
 | [],[]=>by simp[Lib.compareBytes]
 | [],_::_=>by simp[Lib.compareBytes]
 | _::_,[]=>by simp[Lib.compareBytes]
 | a::x,b::y=>by
  unfold Lib.compareBytes
  split
  . omega
  . split
    . omega
    . exact SM x y
theorem uW(a b:aj):bY (Lib.compareBytes a b):=by have:=SM a b;unfold bY;omega
theorem SN{l:List aj}{j:Nat}{x y:aj}(h:rising (l.take j)=true)(bo:1<=j)(ag:l[j-1]?=some x)(aD:l[j]?=some y)(ao:Lib.compareBytes x y<0):rising (l.take (j+1))=true:=by
 obtain⟨k,rfl⟩:∃k,j=k+1:=⟨j-1,by omega⟩;exact SH h uV aD ao
theorem SO{l:List aj}(h:(l.length:Int)>60):(3:Int)=e6 l:=by
 unfold e6;rw[if_pos aa]
theorem SP{l:List aj}{j:Nat}{x y:aj}(Co:¬ ((l.length:Int)>60))(aw:l.all word=true)(bo:1<=j)(ag:l[j-1]?=some x)(aD:l[j]?=some y)(ao:¬ Lib.compareBytes x y<0):(7:Int)=e6 l:=by
 obtain⟨k,rfl⟩:∃k,j=k+1:=⟨j-1,by omega⟩;exact acX Co aw uV aD ao
theorem yM(l:List aj):0<=e6 l/\e6 l<=7:=by
 unfold e6;repeat' split
 all_goals omega
def within(x least nc:Int):Bool:=decide (x>=least) && decide (x<=nc)
structure Key where
 len:Int
 text:aj
 deriving DecidableEq,Repr
def fY(k:Key):List Value:=[.int .i64 k.len,aE k.text]
theorem tQ(x:Key):(fY x).length=2:=rfl
structure cD where
 words:List aj
 cuts:List Key
 workers:Int
 lK:Int
 s3:Int
 batch:Int
 s4:Int
 s5:Int
 first:Int
 cap:Int
 s6:Int
 s7:Int
 deriving DecidableEq
structure cD.Ok(c:cD):Prop where
 workers:bY c.workers
 lK:bY c.lK
 s3:bY c.s3
 batch:bY c.batch
 s4:bY c.s4
 s5:bY c.s5
 first:bY c.first
 cap:bY c.cap
 s6:bY c.s6
 s7:bY c.s7
 words:wa c.words
 cuts:∀k∈c.cuts,bY k.len/\k.text.length<=9223372036854775807
def pA(x y:Int):Int:=if x<y then -1 else if x>y then 1 else 0
def oF:List Int->Int
 | []=>0
 | x::r=>if x≠0 then x else oF r
theorem acY{l:List Int}{k:Nat}{x:Int}(h:oF l=oF (l.drop k))(ag:l[k]?=some x)(bK:x=0):oF l=oF (l.drop (k+1)):=by
 have hk:k<l.length:=(List.getElem?_eq_some_iff.1 ag).1;have e:l[k]=x:=(List.getElem?_eq_some_iff.1 ag).2;rw[h,List.drop_eq_getElem_cons hk,e];simp[oF,bK]
theorem SQ{l:List Int}{k:Nat}{x:Int}(h:oF l=oF (l.drop k))(ag:l[k]?=some x)(bK:x≠0):x=oF l:=by
 have hk:k<l.length:=(List.getElem?_eq_some_iff.1 ag).1;have e:l[k]=x:=(List.getElem?_eq_some_iff.1 ag).2;rw[h,List.drop_eq_getElem_cons hk,e];simp[oF,bK]
theorem SR{l:List Int}{k:Nat}(h:oF l=oF (l.drop k))(hk:l.length<=k):(0:Int)=oF l:=by
 rw[h,List.drop_of_length_le hk];rfl
def HH(a b:Key):Int:=oF [pA a.len b.len,Lib.compareBytes a.text b.text]
def o7(a b:Key):Bool:=decide (HH a b<0)
def wb(c:Key):Bool:=!(decide (c.len<1) || decide (c.len>12) || decide (iP c.text<0) || decide (iP c.text>12))
def rK:List Key->Bool
 | []=>true
 | [_]=>true
 | a::b::r=>o7 a b && rK (b::r)
def tR(l:List Key):Int:=if l.length>5 then 3 else if l.all wb=true then(if rK l=true then 0 else 7) else 2
def LY(l:List Key)(k:Key):Nat:=(l.filter λc=>!o7 k c).length
def ofM(cuts:List Key)(w:aj):Int:=if word w then(LY cuts ⟨iP w,w⟩:Int) else -1
def tS(cuts:List Key)(shard:Int)(w:aj):Bool:=decide (ofM cuts w>=0) && (ofM cuts w==shard)
theorem SS{cuts:List Key}{shard:Int}{w:aj}(h1:0<=ofM cuts w)(ah:ofM cuts w=shard):tS cuts shard w=true:=by simp[tS,<-ah,h1]
theorem SU{cuts:List Key}{shard:Int}{w:aj}(h1:¬ 0<=ofM cuts w):tS cuts shard w=false:=by simp[tS,h1]
theorem SV{cuts:List Key}{shard:Int}{w:aj}(ah:ofM cuts w≠shard):tS cuts shard w=false:=by simp[tS,ah]
def rL(cuts:List Key)(words:List aj)(shard:Int):List aj:=words.filter (tS cuts shard)
theorem SX(l:List Key):rK (l.take 1)=true:=by
 cases l<;>rfl
theorem SY:∀{l:List Key} {k:Nat} {x y:Key},rK (l.take (k+1))=true->l[k]?=some x->l[k+1]?=some y->o7 x y=true->rK (l.take (k+2))=true
 | [],k,x,y,_,ag,_,_=>by simp at ag
 | a::l,0,x,y,h,ag,aD,ao=>by
  cases l with
  | nil=>simp at aD
  | cons b l =>
   simp only[List.getElem?_cons_zero,Option.some.injEq] at ag
   simp only[Nat.zero_add,List.getElem?_cons_succ,List.getElem?_cons_zero,Option.some.injEq] at aD
   subst ag;subst aD
   simp[rK,ao]
 | a::l,k+1,x,y,h,ag,aD,ao=>by
  cases l with
  | nil=>simp at ag
  | cons b l =>
   simp only[List.take_succ_cons,rK,Bool.and_eq_true] at h ⊢
   refine⟨h.1,?_⟩
   have:=SY (l:=b::l) (k:=k) (x:=x) (y:=y) (by simpa using h.2) uV (by simpa using aD) ao
   simpa using this
theorem SZ:∀{l:List Key} {k:Nat} {x y:Key},l[k]?=some x->l[k+1]?=some y->o7 x y=false->rK l=false
 | [],k,x,y,ag,_,_=>by simp at ag
 | a::l,0,x,y,ag,aD,ao=>by
  cases l with
  | nil=>simp at aD
  | cons b l =>
   simp only[List.getElem?_cons_zero,Option.some.injEq] at ag
   simp only[Nat.zero_add,List.getElem?_cons_succ,List.getElem?_cons_zero,Option.some.injEq] at aD
   subst ag;subst aD
   simp[rK,ao]
 | a::l,k+1,x,y,ag,aD,ao=>by
  cases l with
  | nil=>simp at ag
  | cons b l =>
   have:=SZ (l:=b::l) (k:=k) (x:=x) (y:=y) uV (by simpa using aD) ao
   simp[rK,this]
theorem S0{l:List Key}{j:Nat}{x y:Key}(h:rK (l.take j)=true)(bo:1<=j)(ag:l[j-1]?=some x)(aD:l[j]?=some y)(ao:o7 x y=true):rK (l.take (j+1))=true:=by
 obtain⟨k,rfl⟩:∃k,j=k+1:=⟨j-1,by omega⟩;exact SY h uV aD ao
theorem S1{l:List Key}(h:(l.length:Int)>5):(3:Int)=tR l:=by
 unfold tR;rw[if_pos aa]
theorem S2{l:List Key}{k:Nat}{x:Key}(c6:¬ ((l.length:Int)>5))(ag:l[k]?=some x)(hw:wb x=false):(2:Int)=tR l:=by
 unfold tR;rw[if_neg aa,if_neg (by rw[LX ag hw];simp)]
theorem S3{l:List Key}{j:Nat}{x y:Key}(c6:¬ ((l.length:Int)>5))(aw:l.all wb=true)(bo:1<=j)(ag:l[j-1]?=some x)(aD:l[j]?=some y)(ao:o7 x y=false):(7:Int)=tR l:=by
 obtain⟨k,rfl⟩:∃k,j=k+1:=⟨j-1,by omega⟩;unfold tR;rw[if_neg aa,if_pos aw,if_neg (by rw[SZ uV aD ao];simp)]
theorem S4{l:List Key}{k:Nat}(c6:¬ ((l.length:Int)>5))(aw:l.all wb=true)(h:rK (l.take k)=true)(hk:l.length<=k):(0:Int)=tR l:=by
 rw[List.take_of_length_le hk] at h;unfold tR;rw[if_neg aa,if_pos aw,if_pos h]
theorem LZ{α:Type}{p:α->Bool}{l:List α}{k:Nat}{x:α}(ag:l[k]?=some x)(hp:p x=true):(l.take (k+1)).filter p=(l.take k).filter p++[x]:=by
 rw[List.take_add_one,ag];simp[List.filter_append,hp]
theorem ED{α:Type}{p:α->Bool}{l:List α}{k:Nat}{x:α}(ag:l[k]?=some x)(hp:p x=false):(l.take (k+1)).filter p=(l.take k).filter p:=by
 rw[List.take_add_one,ag];simp[List.filter_append,hp]
theorem L0{α:Type}{p:α->Bool}{l:List α}{k:Nat}(h:l.length<=k):(l.take k).filter p=l.filter p:=by
 rw[List.take_of_length_le h]
def EE(c:cD):Bool:=within c.workers 1 5 && within c.lK 1 (min 3 c.workers)
def HI(c:cD):Bool:=within c.s3 1 4 && within c.batch 1 5 && within c.s7 8 64
def HJ(c:cD):Bool:=within c.s4 1 1000 && within c.s5 1 1000 && within c.first 1 10 && within c.cap c.first 50 && within c.s6 0 10
def may(c:cD):Bool:=(e6 c.words==0) && (tR c.cuts==0) && (EE c && HI c && HJ c)
def je(c:cD):Nat:=if may c=true then c.cuts.length+1 else 0
def jW(c:cD)(shard:Int):List Int:=if within shard 0 ((je c:Int)-1)=true then(List.range c.lK.toNat).map (λj:Nat=>1+(shard+(j:Int)) % c.workers) else[]
def cn(c:cD)(worker:Int):List Int:=((List.range (je c)).filter (λs:Nat=>(jW c (s:Int)).contains worker)).map (λs:Nat=>(s:Int))
def tT(c:cD)(shard:Int):List aj:=rL c.cuts c.words shard
def qZ(l:List aj):Bool:=decide (l.length>80) || l.any λs=>decide (s.length>100)
def sm(c:cD):Bool:=decide (c.cuts.length>10) || (c.cuts.any λk=>decide (k.text.length>100)) || qZ c.words
def oG(x n:Int):Int:=(IntKind.u64.wrap x) % n
theorem S5{α:Type}{p:α->Bool}{l:List α}{k:Nat}{x:α}(h:(l.take k).any p=false)(ag:l[k]?=some x)(hp:p x=false):(l.take (k+1)).any p=false:=by
 rw[List.take_add_one,ag];simp_all
theorem S6{α:Type}{p:α->Bool}{l:List α}{k:Nat}(h:(l.take k).any p=false)(hk:l.length<=k):l.any p=false:=by
 rwa[List.take_of_length_le hk] at h
theorem S7{α:Type}{p:α->Bool}{l:List α}{k:Nat}{x:α}(ag:l[k]?=some x)(hp:p x=true):l.any p=true:=
 List.any_eq_true.2 ⟨x,List.mem_of_getElem? ag,hp⟩
theorem HK{α:Type}{a b:List α}{k:Nat}{x y:α}(h:a.take k=b.take k)(ag:a[k]?=some x)(aD:b[k]?=some y)(e:x=y):a.take (k+1)=b.take (k+1):=by
 rw[List.take_add_one,List.take_add_one,ag,aD,h,e]
theorem HL{α:Type}{a b:List α}{k:Nat}(h:a.take k=b.take k)(hk:a.length<=k)(bj:a.length=b.length):a=b:=by
 rwa[List.take_of_length_le hk,List.take_of_length_le aa] at h
theorem EF{α:Type}{a b:List α}{k:Nat}{x y:α}(ag:a[k]?=some x)(aD:b[k]?=some y)(e:x≠y):a≠b:=λh=>by
 subst h;rw[ag] at aD;exact e (by simpa using aD)
def p4:List Int->Int->Int
 | [],_=>-1
 | x::r,v=>if v=x then 0 else(if p4 r v<0 then -1 else p4 r v+1)
theorem acZ:∀(l:List Int) (v:Int),-1<=p4 l v
 | [],_=>by simp[p4]
 | x::r,v=>by unfold p4;have:=acZ r v;split<;>(try split)<;>omega
structure uX(s:List Int)(v:Int)(k:Nat):Prop where
 none:∀x∈s.take k,v≠x
theorem uX.start(s:List Int)(v:Int):uX s v 0:=⟨by simp⟩
theorem uX.next{s:List Int}{v:Int}{k:Nat}{x:Int}(h:uX s v k)(ag:s[k]?=some x)(dG:v≠x):uX s v (k+1):=by
 refine⟨λy aD=>?_⟩;rw[List.take_add_one,ag] at aD;simp only[Option.toList_some,List.mem_append,List.mem_singleton] at aD;rcases aD with aD|rfl
 . exact h.none y aD
 . exact dG
theorem S8:∀(s:List Int) (v:Int) (k:Nat),(∀x∈s.take k,v≠x)->s[k]?=some v->p4 s v=(k:Int)
 | [],_,_,_,h=>by simp at h
 | x::r,v,0,_,h=>by
  simp only[List.getElem?_cons_zero,Option.some.injEq] at h
  simp[p4,h]
 | x::r,v,k+1,aN,h=>by
  have h1:v≠x:=aN x dg
  have b':=S8 r v k (λy aD=>aN y (by simp[aD])) (by simpa using h)
  rw[p4,if_neg h1,b',if_neg aa];rfl
theorem S9:∀(s:List Int) (v:Int),(∀x∈s,v≠x)->p4 s v=-1
 | [],_,_=>rfl
 | x::r,v,aN=>by
  rw[p4,if_neg (aN x dg),S9 r v (λy aD=>aN y (by simp[aD])),if_pos aa]
theorem uX.found{s:List Int}{v:Int}{k:Nat}{x:Int}(h:uX s v k)(ag:s[k]?=some x)(he:v=x):(k:Int)=p4 s v:=by
 subst he;exact(S8 s v k h.none ag).symm
theorem uX.fin{s:List Int}{v:Int}{k:Nat}(h:uX s v k)(hk:s.length<=k):(-1:Int)=p4 s v:=by
 have:=h.none;rw[List.take_of_length_le hk] at this;exact(S9 s v this).symm
theorem S_:∀(s:List Int) (v:Int),s.contains v=decide (p4 s v>=0)
 | [],_=>by simp[p4]
 | x::r,v=>by
  have b':=S_ r v
  by_cases h:v=x
  . subst h;simp[p4]
  . have ab:(v==x)=false:=by simpa using h
    rw[List.contains_cons,ab,Bool.false_or,b',p4,if_neg h]
    by_cases ah:p4 r v<0
    . rw[if_pos ah];simp;omega
    . rw[if_neg ah];simp;omega
theorem S'{c:cD}(h:may c=true):c.cuts.length<=5:=by
 simp only[may,Bool.and_eq_true,beq_iff_eq] at h;have ah:=h.1.2;unfold tR at ah;by_cases bj:c.cuts.length>5
 . rw[if_pos bj] at ah;omega
 . omega
theorem ac0{c:cD}(h:may c=true):c.words.length<=60:=by
 simp only[may,Bool.and_eq_true,beq_iff_eq] at h;have ah:=h.1.1;unfold e6 at ah;by_cases bj:c.words.length>60
 . rw[if_pos bj] at ah;omega
 . omega
theorem uY(c:cD):je c<=6:=by
 unfold je;split
 . rename_i h;have:=S' h;omega
 . omega
theorem ac1{c:cD}{worker:Int}{k:Nat}{l:List Int}(h:l=((List.range k).filter (λs:Nat=>(jW c (s:Int)).contains worker)).map (λs:Nat=>(s:Int)))(ao:(jW c (k:Int)).contains worker=true):
 l++[(k:Int)]=((List.range (k+1)).filter (λs:Nat=>(jW c (s:Int)).contains worker)).map (λs:Nat=>(s:Int)):=by
 rw[h,List.range_succ,List.filter_append,List.map_append,List.filter_cons,if_pos ao];rfl
theorem ac2{c:cD}{worker:Int}{k:Nat}{l:List Int}(h:l=((List.range k).filter (λs:Nat=>(jW c (s:Int)).contains worker)).map (λs:Nat=>(s:Int)))(ao:(jW c (k:Int)).contains worker=false):
 l=((List.range (k+1)).filter (λs:Nat=>(jW c (s:Int)).contains worker)).map (λs:Nat=>(s:Int)):=by
 rw[h,List.range_succ,List.filter_append,List.map_append,List.filter_cons,if_neg (by rw[ao];exact Bool.false_ne_true)];simp
theorem ac3{l:List aj}{k:Nat}{x:aj}(ag:l[k]?=some x)(h:(x.length:Int)>100):true=qZ l:=by
 unfold qZ;rw[S7 ag (decide_eq_true aa)];simp
theorem asE{l:List aj}{b:Bool}(h:l.length>80)(ab:b=decide ((l.length:Int)>80)):b=qZ l:=by
 rw[ab,decide_eq_true aa,qZ,decide_eq_true h];rfl
theorem ac4{c:cD}{k:Nat}{x:Key}(ag:c.cuts[k]?=some x)(h:(x.text.length:Int)>100):true=sm c:=by
 unfold sm;rw[S7 ag (decide_eq_true aa)];simp
theorem ac5{c:cD}(h:qZ c.words=true):true=sm c:=by unfold sm;rw[h];simp
theorem ac6{c:cD}{k:Nat}{b:Bool}(h:(c.cuts.take k).any (λs=>decide (s.text.length>100))=false)(hk:c.cuts.length<=k\/c.cuts.length>10)(hw:qZ c.words=false)(ab:b=decide ((c.cuts.length:Int)>10)):b=sm c:=by
 rw[ab];unfold sm;rw[hw];by_cases tU:c.cuts.length>10
 . rw[decide_eq_true tU,decide_eq_true aa];simp
 . rw[decide_eq_false tU,decide_eq_false aa,S6 h aa];simp
theorem EG(x:Int):0<=IntKind.u64.wrap x/\IntKind.u64.wrap x<=18446744073709551615:=by
 simp only[IntKind.wrap,IntKind.bits,IntKind.signed];simp
 omega
theorem Ta(n:Int)(h:0<=n/\n<=9223372036854775807):IntKind.u64.wrap n=n:=IntWalk.u64_in n aa
theorem HM(x n:Int)(h:1<=n):0<=oG x n/\oG x n<n:=⟨Int.emod_nonneg _ aa,Int.emod_lt_of_pos _ aa⟩
theorem ac7{x n:Int}(h:1<=n)(aN:bY n):IntKind.i64.wrap (IntKind.u64.wrap x % IntKind.u64.wrap n)=oG x n:=by
 have h1:=Ta n ⟨by omega,aN.2⟩;have ah:=HM x n h;rw[h1];exact IntWalk.i64_in _ ⟨by unfold oG at ah;omega,by have:=aN.2;unfold oG at ah;omega⟩
theorem od{x l m:Int}(h:within x l m=true):l<=x/\x<=m:=by
 simp only[within,Bool.and_eq_true,decide_eq_true_eq] at h;omega
theorem p5{x l m:Int}(h:within x l m=false):x<l\/m<x:=by
 simp only[within,Bool.and_eq_false_iff,decide_eq_false_iff_not] at h;omega
theorem xw{c:cD}(h:may c=true):1<=c.workers/\c.workers<=5/\1<=c.lK/\c.lK<=3/\c.lK<=c.workers/\c.words.length<=60/\c.cuts.length<=5:=by
 have h1:=S' h;have ah:=ac0 h;simp only[may,EE,Bool.and_eq_true] at h;have aB:=od h.2.1.1.1;have bE:=od h.2.1.1.2;omega
theorem HN{c:cD}(h:0<je c):may c=true:=by
 unfold je at h;split at h
 . assumption
 . omega
theorem L3{c:cD}{shard:Int}{j:Nat}{l:List Int}(hw:within shard 0 ((je c:Int)-1)=true)(ar:l=(List.range j).map (λj:Nat=>1+(shard+(j:Int)) % c.workers))(bo:j=c.lK.toNat):l=jW c shard:=by
 subst bo;rw[ar,jW,if_pos hw]
theorem HO{c:cD}{shard:Int}(hw:within shard 0 ((je c:Int)-1)=false):[]=jW c shard:=by
 rw[jW,if_neg (by rw[hw];exact Bool.false_ne_true)]
theorem ac8{l:List aj}{k:Nat}{b:Bool}(h:(l.take k).any (λs=>decide (s.length>100))=false)(hk:l.length<=k\/80<l.length)(ab:b=decide ((l.length:Int)>80)):b=qZ l:=by
 rw[ab];unfold qZ;by_cases sn:l.length>80
 . rw[decide_eq_true sn,decide_eq_true aa];rfl
 . rw[decide_eq_false sn,decide_eq_false aa,S6 h aa];rfl
def cD.okB(c:cD):Bool:=
 decide (bY c.workers) && decide (bY c.lK) && decide (bY c.s3) && decide (bY c.batch) && decide (bY c.s4) && decide (bY c.s5) && decide (bY c.first) && decide (bY c.cap) && decide (bY c.s6) && decide (bY c.s7) &&
 (c.words.all λs=>decide (s.length<=9223372036854775807)) && (c.cuts.all λk=>decide (bY k.len) && decide (k.text.length<=9223372036854775807))
theorem cD.HP{c:cD}(h:c.okB=true):c.Ok:=by
 simp only[cD.okB,Bool.and_eq_true,decide_eq_true_eq,List.all_eq_true] at h;obtain⟨⟨⟨⟨⟨⟨⟨⟨⟨⟨⟨h1,ah⟩,aB⟩,bE⟩,c6⟩,eZ⟩,kB⟩,sn⟩,uZ⟩,tU⟩,ac9⟩,ac_⟩:=h;exact⟨h1,ah,aB,bE,c6,eZ,kB,sn,uZ,tU,ac9,ac_⟩
structure Key.Ok(k:Key):Prop where
 len:bY k.len
 text:k.text.length<=9223372036854775807
theorem head_cons{α:Type}{l:List α}{x:α}(h:l[0]?=some x):l=x::l.drop 1:=by
 cases l with
 | nil=>simp at h
 | cons a l=>simp at h;subst h;rfl
end Go.ak
namespace Go.aH
open Go
def dt(s:aj)(k:Nat):Nat:=(s[k]?.getD 0).toNat
theorem u0(s:aj)(k:Nat):dt s k<256:=by unfold dt;exact(s[k]?.getD 0).toNat_lt
section
variable {P:Program} {E:Env} {C:World->Prop} {d:Option Tmp} {ty:TypeId} {pos:String} {af:Array Edge} {gd:Option (Nat×Bool)}
theorem bx.oe{s t:TypeId}{x:Operand}{k ju:IntKind}{p:Int}(aT:(P.underlying s).isSome=true)(a8:P.underlying t=some (.int ju))(ag:aO E x=some (.int k p))(hw:ju.wrap p=p):bx P ⟨d,.convert s t x,ty,pos,af,gd⟩ E C (.int ju p):=by
 have h:=bx.rG (P:=P) (E:=E) (C:=C) (d:=d) (ty:=ty) (pos:=pos) (af:=af) (gd:=gd) aT a8 ag;rwa[hw] at h
theorem bx.ac'{xt yt:TypeId}{x y:Operand}{k ju:IntKind}{p:Int}(r:Int)(ag:aO E x=some (.int k p))(aD:aO E y=some (.int ju 1))(a':p / 2=r):bx P ⟨d,.binOp .shr xt x y yt,ty,pos,af,gd⟩ E C (.int k r):=λa aw w _=>by
 have e:p.fdiv 2=r:=by rw[<-a'];exact Int.fdiv_eq_ediv_of_nonneg _ aa
 have hk:Min.min 1 k.bits=1:=by cases k<;>rfl
 simp[execOp,aw.aO ag,aw.aO aD,eqGuard,Go.binOp,Op.shift,hk,e]
theorem bx.mn{x y:Operand}{xt yt:TypeId}{p q:Int}(r:Int)(ag:aO E x=some (.int .i32 p))(aD:aO E y=some (.int .i32 q))(a':p+q=r/\-2147483648<=r/\r<=2147483647):bx P ⟨d,.binOp .add xt x y yt,ty,pos,af,gd⟩ E C (.int .i32 r):=by
 have h:=bx.add (P:=P) (C:=C) (d:=d) (xt:=xt) (yt:=yt) (ty:=ty) (pos:=pos) (af:=af) (gd:=gd) ag aD;rw[IntWalk.i32_in _ aa,a'.1] at h;exact h
theorem bx.yN{x y:Operand}{xt yt:TypeId}{p q:Int}(r:Int)(ag:aO E x=some (.int .i32 p))(aD:aO E y=some (.int .i32 q))(a':p-q=r/\-2147483648<=r/\r<=2147483647):bx P ⟨d,.binOp .sub xt x y yt,ty,pos,af,gd⟩ E C (.int .i32 r):=by
 have h:=bx.sub (P:=P) (C:=C) (d:=d) (xt:=xt) (yt:=yt) (ty:=ty) (pos:=pos) (af:=af) (gd:=gd) ag aD;rw[IntWalk.i32_in _ aa,a'.1] at h;exact h
theorem bx.qv{x y:Operand}{xt yt:TypeId}{p q:Int}(r:Int)(ag:aO E x=some (.int .i32 p))(aD:aO E y=some (.int .i32 q))(a':p*q=r/\-2147483648<=r/\r<=2147483647):bx P ⟨d,.binOp .mul xt x y yt,ty,pos,af,gd⟩ E C (.int .i32 r):=by
 have h:=bx.mul (P:=P) (C:=C) (d:=d) (xt:=xt) (yt:=yt) (ty:=ty) (pos:=pos) (af:=af) (gd:=gd) ag aD;rw[IntWalk.i32_in _ (by rw[a'.1];omega),a'.1] at h;exact h
theorem bx.yO{t:TypeId}{x y:Operand}{s:aj}{k:IntKind}{n:Int}(i:Nat)(a8:P.underlying t=some .string)(ag:aO E x=some (aE s))(aD:aO E y=some (.int k n))(aN:n=(i:Int))(ar:i<s.length):
 bx P ⟨d,.index t x y,ty,pos,af,gd⟩ E C (.int .u8 ((dt s i:Nat):Int)):=by
 have h:=bx.acA (P:=P) (E:=E) (C:=C) (d:=d) (ty:=ty) (pos:=pos) (af:=af) (gd:=gd) i a8 ag aD aN ar;have e:dt s i=s[i].toNat:=(by unfold dt;rw[List.getElem?_eq_getElem ar];rfl);rw[e];exact h
end
inductive cZ{α β:Type}(R:α->β->Prop):List α->List β->Prop
 | nil:cZ R [] []
 | cons {a:α} {b:β} {l:List α} {m:List β}:R a b->cZ R l m->cZ R (a::l) (b::m)
theorem cZ.imp{α β:Type}{R S:α->β->Prop}(h:∀a b,R a b->S a b){l:List α}{m:List β}(k:cZ R l m):cZ S l m:=by
 induction k with
 | nil=>exact .nil
 | cons h1 _ b'=>exact .cons (h _ _ h1) b'
theorem cZ.get{α β:Type}{R:α->β->Prop}{l:List α}{m:List β}(k:cZ R l m):l.length=m.length/\∀(i:Nat) (a:α) (b:β),l[i]?=some a->m[i]?=some b->R a b:=by
 induction k with
 | nil=>exact⟨rfl,by simp⟩
 | cons h1 _ b' =>
  refine⟨by simp[b'.1],λi x y ag aD=>?_⟩
  cases i with
  | zero=>simp only[List.getElem?_cons_zero,Option.some.injEq] at ag aD;subst ag aD;exact h1
  | succ i=>exact b'.2 i x y uV (by simpa using aD)
theorem cZ.app{α β:Type}{R:α->β->Prop}{l dL:List α}{m m2:List β}(k:cZ R l m)(cy:cZ R dL m2):cZ R (l++dL) (m++m2):=by
 induction k with
 | nil=>exact cy
 | cons h1 _ b'=>exact .cons h1 b'
end Go.aH
namespace Go.ak
open Go.aH
def hZ(s:aj)(k:Nat):Bool:=decide (k<s.length/\128<=dt s k/\dt s k<=191)
def gp(s:aj)(k:Nat):Int:=if hZ s k=true then(dt s k:Int)-128 else 0
def fw(s:aj)(i:Nat):Int×Int:=
 let c:Int:=(dt s i:Int)
 if c<128 then(c,1)
 else if c>=194/\c<=223/\hZ s (i+1)=true then((c-192)*64+gp s (i+1),2)
 else if c>=224/\c<=239/\hZ s (i+1)=true/\hZ s (i+2)=true then((c-224)*4096+gp s (i+1)*64+gp s (i+2),3)
 else if c>=240/\c<=244/\hZ s (i+1)=true/\hZ s (i+2)=true/\hZ s (i+3)=true then((c-240)*262144+gp s (i+1)*4096+gp s (i+2)*64+gp s (i+3),4)
 else(0,0)
def pB(r:Int):Bool:=decide (r>=0) && decide (r<=1114111) && (decide (r<55296) || decide (r>57343)) && !(r==65533)
def wc(s:aj)(i:Nat):Bool:=(fw s i).2==0 || !pB (fw s i).1 || ((fw s i).2==3 && decide ((fw s i).1<2048)) || ((fw s i).2==4 && decide ((fw s i).1<65536))
theorem get_at(s:aj)(k:Nat):((⟨s.toArray⟩:ByteArray).get! k).toNat=dt s k:=by
 unfold dt;show(s.toArray[k]!).toNat=_;simp[List.getElem!_eq_getElem?_getD];rfl
theorem L4(L i c:Nat)(ao:c<256):(decide (i<L) && (c / 64==2))=decide (i<L/\128<=c/\c<=191):=by
 rw[Bool.eq_iff_iff];simp only[Bool.and_eq_true,decide_eq_true_eq,beq_iff_eq];omega
def u1(fo c1 c2 hE:Nat)(bC cy dE:Bool):Nat×Nat:=
 if fo<128 then(fo,1)
 else if (fo / 32==6 && bC)=true then(if fo % 32*64+c1 % 64>=128 then(fo % 32*64+c1 % 64,2) else(65533,1))
 else if (fo / 16==14 && bC && cy)=true then(if (decide (fo % 16*4096+c1 % 64*64+c2 % 64>=2048) && Utf8.valid ((fo % 16*4096+c1 % 64*64+c2 % 64:Nat):Int))=true then(fo % 16*4096+c1 % 64*64+c2 % 64,3) else(65533,1))
 else if (fo / 8==30 && bC && cy && dE)=true then(if (decide (fo % 8*262144+c1 % 64*4096+c2 % 64*64+hE % 64>=65536) && Utf8.valid ((fo % 8*262144+c1 % 64*4096+c2 % 64*64+hE % 64:Nat):Int))=true then(fo % 8*262144+c1 % 64*4096+c2 % 64*64+hE % 64,4) else(65533,1))
 else(65533,1)
theorem L5(s:aj)(i:Nat):dec (s.drop i)=u1 (dt s i) (dt s (i+1)) (dt s (i+2)) (dt s (i+3)) (hZ s (i+1)) (hZ s (i+2)) (hZ s (i+3)):=by
 have dI:(⟨s.toArray⟩:ByteArray).size=s.length:=(by simp[ByteArray.size]);rw[<-Sy];unfold Utf8.decode u1 hZ;simp only[get_at,dI,Nat.add_zero,Utf8.runeError];rw[L4 _ _ _ (u0 s (i+1)),L4 _ _ _ (u0 s (i+2)),L4 _ _ _ (u0 s (i+3))]
def Az(fo c1 c2 hE:Int)(bC cy dE:Bool):Int×Int:=
 if fo<128 then(fo,1)
 else if fo>=194/\fo<=223/\bC=true then((fo-192)*64+(if bC=true then c1-128 else 0),2)
 else if fo>=224/\fo<=239/\bC=true/\cy=true then((fo-224)*4096+(if bC=true then c1-128 else 0)*64+(if cy=true then c2-128 else 0),3)
 else if fo>=240/\fo<=244/\bC=true/\cy=true/\dE=true then((fo-240)*262144+(if bC=true then c1-128 else 0)*4096+(if cy=true then c2-128 else 0)*64+(if dE=true then hE-128 else 0),4)
 else(0,0)
theorem ada(s:aj)(i:Nat):fw s i=Az (dt s i) (dt s (i+1)) (dt s (i+2)) (dt s (i+3)) (hZ s (i+1)) (hZ s (i+2)) (hZ s (i+3)):=rfl
def yP(p:Int×Int):Prop:=p.2=0\/¬ (p.1>=0/\p.1<=1114111/\(p.1<55296\/p.1>57343)/\p.1≠65533)\/(p.2=3/\p.1<2048)\/(p.2=4/\p.1<65536)
theorem EH(s:aj)(i:Nat):wc s i=true↔yP (fw s i):=by
 unfold wc yP pB;generalize (fw s i).1=r;generalize (fw s i).2=n;simp only[Bool.or_eq_true,Bool.and_eq_true,beq_iff_eq,decide_eq_true_eq,Bool.not_eq_true',Bool.and_eq_false_iff,Bool.or_eq_false_iff,decide_eq_false_iff_not,Bool.not_eq_false'];omega
theorem EI(n:Nat):Utf8.valid (n:Int)=decide (n<55296\/(57344<=n/\n<=1114111)):=by
 unfold Utf8.valid;rw[Bool.eq_iff_iff];simp only[Bool.or_eq_true,Bool.and_eq_true,decide_eq_true_eq];omega
theorem arith(fo c1 c2 hE:Nat)(bK:fo<256)(bC cy dE:Bool)(h1:bC=true->128<=c1/\c1<=191)(ah:cy=true->128<=c2/\c2<=191)(aB:dE=true->128<=hE/\hE<=191):
 (yP (Az fo c1 c2 hE bC cy dE)->(u1 fo c1 c2 hE bC cy dE).1=65533) /\
 (¬ yP (Az fo c1 c2 hE bC cy dE)->((u1 fo c1 c2 hE bC cy dE).1:Int)=(Az fo c1 c2 hE bC cy dE).1/\((u1 fo c1 c2 hE bC cy dE).2:Int)=(Az fo c1 c2 hE bC cy dE).2/\(Az fo c1 c2 hE bC cy dE).1≠65533):=by
 unfold u1 Az yP;simp only[EI]
 cases bC<;>cases cy<;>cases dE<;>simp only[Bool.and_true,Bool.and_false,Bool.false_eq_true,if_false,if_true,and_false,and_true,false_and,true_and,forall_const,false_implies,beq_iff_eq,Bool.and_eq_true,decide_eq_true_eq] at *<;>(repeat' split)<;>first|(simp only at *;omega)|omega
theorem Tb(s:aj)(i:Nat):(wc s i=true->(dec (s.drop i)).1=65533)/\(wc s i=false->((dec (s.drop i)).1:Int)=(fw s i).1/\((dec (s.drop i)).2:Int)=(fw s i).2/\(fw s i).1≠65533):=by
 have ao:∀k,hZ s k=true->128<=dt s k/\dt s k<=191:=λk h=>by unfold hZ at h;exact(of_decide_eq_true h).2
 have h:=arith (dt s i) (dt s (i+1)) (dt s (i+2)) (dt s (i+3)) (u0 s i) _ _ _ (ao (i+1)) (ao (i+2)) (ao (i+3));rw[<-L5,<-ada] at h;refine⟨λab=>h.1 ((EH s i).1 ab),λab=>h.2 (λhp=>?_)⟩;rw[(EH s i).2 hp] at ab;cases ab
theorem tV{s:aj}{i:Nat}:hZ s i=true↔(i<s.length/\128<=dt s i/\dt s i<=191):=by unfold hZ;exact decide_eq_true_iff
theorem adb{s:aj}{i:Nat}(h:i<s.length/\128<=dt s i/\dt s i<=191):true=hZ s i:=(tV.2 h).symm
theorem ade{s:aj}{i:Nat}(h:¬ (i<s.length/\128<=dt s i/\dt s i<=191)):false=hZ s i:=by
 cases ao:hZ s i with
 | false=>rfl
 | true=>exact absurd (tV.1 ao) h
theorem adf{s:aj}{i:Nat}(h:i<s.length/\128<=dt s i/\dt s i<=191):((dt s i:Nat):Int)-128=gp s i:=by
 unfold gp;rw[if_pos (tV.2 h)]
theorem adg{s:aj}{i:Nat}(h:¬ (i<s.length/\128<=dt s i/\dt s i<=191)):(0:Int)=gp s i:=by
 unfold gp;rw[if_neg (λao=>h (tV.1 ao))]
theorem Cp(s:aj)(i:Nat):0<=gp s i/\gp s i<=63:=by
 unfold gp;split
 . rename_i h;have:=tV.1 h;omega
 . omega
theorem adh{s:aj}{i:Nat}(h:((dt s i:Nat):Int)<128):((dt s i:Nat):Int)=(fw s i).1/\(1:Int)=(fw s i).2:=by
 unfold fw;simp only;rw[if_pos h];exact⟨rfl,rfl⟩
theorem adi{s:aj}{i:Nat}(h:¬ ((dt s i:Nat):Int)<128)(ah:((dt s i:Nat):Int)>=194/\((dt s i:Nat):Int)<=223/\hZ s (i+1)=true):
 (((dt s i:Nat):Int)-192)*64+gp s (i+1)=(fw s i).1/\(2:Int)=(fw s i).2:=by
 unfold fw;simp only;rw[if_neg h,if_pos ah];exact⟨rfl,rfl⟩
theorem Tc{s:aj}{i:Nat}(h:¬ ((dt s i:Nat):Int)<128)(ah:¬ (((dt s i:Nat):Int)>=194/\((dt s i:Nat):Int)<=223/\hZ s (i+1)=true))
 (aB:((dt s i:Nat):Int)>=224/\((dt s i:Nat):Int)<=239/\hZ s (i+1)=true/\hZ s (i+2)=true) :
 (((dt s i:Nat):Int)-224)*4096+gp s (i+1)*64+gp s (i+2)=(fw s i).1/\(3:Int)=(fw s i).2:=by
 unfold fw;simp only;rw[if_neg h,if_neg ah,if_pos aB];exact⟨rfl,rfl⟩
theorem HQ{s:aj}{i:Nat}(h:¬ ((dt s i:Nat):Int)<128)(ah:¬ (((dt s i:Nat):Int)>=194/\((dt s i:Nat):Int)<=223/\hZ s (i+1)=true))
 (aB:¬ (((dt s i:Nat):Int)>=224/\((dt s i:Nat):Int)<=239/\hZ s (i+1)=true/\hZ s (i+2)=true))
 (bE:((dt s i:Nat):Int)>=240/\((dt s i:Nat):Int)<=244/\hZ s (i+1)=true/\hZ s (i+2)=true/\hZ s (i+3)=true) :
 (((dt s i:Nat):Int)-240)*262144+gp s (i+1)*4096+gp s (i+2)*64+gp s (i+3)=(fw s i).1/\(4:Int)=(fw s i).2:=by
 unfold fw;simp only;rw[if_neg h,if_neg ah,if_neg aB,if_pos bE];exact⟨rfl,rfl⟩
theorem jf{s:aj}{i:Nat}(h:¬ ((dt s i:Nat):Int)<128)(ah:¬ (((dt s i:Nat):Int)>=194/\((dt s i:Nat):Int)<=223/\hZ s (i+1)=true))
 (aB:¬ (((dt s i:Nat):Int)>=224/\((dt s i:Nat):Int)<=239/\hZ s (i+1)=true/\hZ s (i+2)=true))
 (bE:¬ (((dt s i:Nat):Int)>=240/\((dt s i:Nat):Int)<=244/\hZ s (i+1)=true/\hZ s (i+2)=true/\hZ s (i+3)=true)) :
 (0:Int)=(fw s i).1/\(0:Int)=(fw s i).2:=by
 unfold fw;simp only;rw[if_neg h,if_neg ah,if_neg aB,if_neg bE];exact⟨rfl,rfl⟩
theorem adj(s:aj)(i:Nat):0<=(fw s i).1/\(fw s i).1<=1500000/\0<=(fw s i).2/\(fw s i).2<=4:=by
 have bK:=u0 s i;have h1:=Cp s (i+1);have ah:=Cp s (i+2);have aB:=Cp s (i+3);unfold fw;simp only;repeat' split
 all_goals (simp only;omega)
theorem adk(s:aj)(i:Nat)(ar:i<s.length):(i:Int)+(fw s i).2<=s.length:=by
 unfold fw;simp only;repeat' split
 all_goals simp only
 . omega
 . rename_i h;have:=(tV.1 h.2.2).1;omega
 . rename_i h;have:=(tV.1 h.2.2.2).1;omega
 . rename_i h;have:=(tV.1 h.2.2.2.2).1;omega
 . omega
theorem Cq(r:Int):pB r=decide (0<=r/\r<=1114111/\(r<55296\/r>57343)/\r≠65533):=by
 unfold pB;rw[Bool.eq_iff_iff];simp only[Bool.and_eq_true,Bool.or_eq_true,decide_eq_true_eq,Bool.not_eq_true',beq_eq_false_iff_ne];omega
theorem adl{r:Int}{b:Bool}(h:0<=r/\r<=1114111/\(r<55296\/r>57343))(ab:b=(r != 65533)):b=pB r:=by
 rw[ab,Cq,Bool.eq_iff_iff];simp only[bne_iff_ne,decide_eq_true_eq];omega
theorem adm{r:Int}(h:¬ (0<=r/\r<=1114111/\(r<55296\/r>57343))):false=pB r:=by
 rw[Cq,decide_eq_false aa]
structure nd(s:aj)(i:Nat)(l:List Int):Prop where
 ex:∃pre,Scan s i pre/\l=pre.map (λn:Nat=>(n:Int))/\65533∉pre
def ea(s:aj):List Int:=(hc s).map λn:Nat=>(n:Int)
def jX(s:aj):Bool:=decide (65533∉hc s)
theorem nd.start(s:aj):nd s 0 []:=⟨⟨[],Scan.start s,rfl,by simp⟩⟩
theorem nd.next{s:aj}{i j:Nat}{l:List Int}(h:nd s i l)(ar:i<s.length)(ab:wc s i=false)(bo:(j:Int)=(i:Int)+(fw s i).2):nd s j (l++[(fw s i).1]):=by
 obtain⟨pre,h1,ah,aB⟩:=h.ex;have hd:=(Tb s i).2 ab;have dG:s.drop i≠[]:=λe=>by have:=congrArg List.length e;simp at this;omega
 have aN:=h1.next dG;have e:j=i+(dec (s.drop i)).2:=(by omega);rw[e];refine⟨⟨_,aN,by rw[ah,List.map_append,<-hd.1];rfl,?_⟩⟩;simp only[List.mem_append,List.mem_singleton,not_or];exact⟨aB,λe=>by have:=hd.1;rw[<-e] at this;exact hd.2.2 this.symm⟩
theorem nd.bad{s:aj}{i:Nat}{l:List Int}(h:nd s i l)(ar:i<s.length)(ab:wc s i=true):false=jX s:=by
 obtain⟨pre,h1,ah,aB⟩:=h.ex;have dG:s.drop i≠[]:=λe=>by have:=congrArg List.length e;simp at this;omega
 have:=h1.mem dG;rw[(Tb s i).1 ab] at this;unfold jX;simp[this]
theorem nd.fin{s:aj}{i:Nat}{l:List Int}(h:nd s i l)(ar:s.length<=i):l=ea s/\true=jX s:=by
 obtain⟨pre,h1,ah,aB⟩:=h.ex;have:=h1.done (List.drop_of_length_le ar);refine⟨by rw[ah,ea,this],?_⟩;unfold jX;rw[this];simp[aB]
theorem nd.len{s:aj}{i:Nat}{l:List Int}(h:nd s i l):l.length<=i:=by
 obtain⟨pre,h1,ah,aB⟩:=h.ex;rw[ah,List.length_map];exact h1.len
theorem adn(s:aj):iP s=if jX s=true then((ea s).length:Int) else -1:=by
 unfold iP jX ea;by_cases h:65533∈hc s
 . simp[h]
 . simp[h]
theorem ado{s:aj}{i:Nat}(bK:(fw s i).2≠0)(aU:pB (fw s i).1=true)(aB:¬ ((fw s i).2=3/\(fw s i).1<2048))(bE:¬ ((fw s i).2=4/\(fw s i).1<65536)):wc s i=false:=by
 cases ab:wc s i with
 | false=>rfl
 | true =>
  have:=(EH s i).1 ab;rw[Cq] at aU;have:=of_decide_eq_true aU;unfold yP at *;omega
theorem Td{s:aj}{i:Nat}(h:(fw s i).2=0\/((fw s i).2=3/\(fw s i).1<2048)\/((fw s i).2=4/\(fw s i).1<65536)):wc s i=true:=by
 rw[EH];unfold yP;omega
theorem Te{s:aj}{i:Nat}(h:pB (fw s i).1=false):wc s i=true:=by
 rw[EH];unfold yP;rw[Cq] at h;have:=of_decide_eq_false h;omega
def jE(s:aj):List Int:=if jX s=true then ea s else[]
theorem EJ{s:aj}(h:false=jX s):[]=jE s:=by unfold jE;rw[<-h];rfl
theorem EK{s:aj}(h:true=jX s):ea s=jE s:=by unfold jE;rw[<-h];rfl
theorem Tf(s:aj):iP s=if jX s=true then((jE s).length:Int) else -1:=by
 rw[adn];by_cases h:jX s=true
 . rw[if_pos h,if_pos h,jE,if_pos h]
 . rw[if_neg h,if_neg h]
theorem Tg{s:aj}(h:jX s=false):(-1:Int)=iP s:=by rw[Tf,h];rfl
theorem Th{s:aj}(h:jX s=true):(((jE s).length:Nat):Int)=iP s:=by rw[Tf,if_pos h]
structure s8(a b:aj)(i:Nat):Prop where
 eq:Lib.compareBytes a b=Lib.compareBytes (a.drop i) (b.drop i)
theorem s8.start(a b:aj):s8 a b 0:=⟨rfl⟩
theorem yQ{s:aj}{i:Nat}(h:i<s.length):s.drop i=s[i]::s.drop (i+1):=List.drop_eq_getElem_cons h
theorem AA{s:aj}{i:Nat}(h:i<s.length):dt s i=s[i].toNat:=by unfold dt;rw[List.getElem?_eq_getElem h];rfl
theorem s8.lt{a b:aj}{i:Nat}(h:s8 a b i)(aw:i<a.length)(ab:i<b.length)(ao:dt a i<dt b i):(-1:Int)=Lib.compareBytes a b:=by
 rw[AA aw,AA ab] at ao;rw[h.eq,yQ aw,yQ ab,Lib.compareBytes,if_pos (UInt8.lt_iff_toNat_lt.2 ao)]
theorem s8.gt{a b:aj}{i:Nat}(h:s8 a b i)(aw:i<a.length)(ab:i<b.length)(ao:dt b i<dt a i):(1:Int)=Lib.compareBytes a b:=by
 rw[AA aw,AA ab] at ao;rw[h.eq,yQ aw,yQ ab,Lib.compareBytes,if_neg (λhD=>by have:=UInt8.lt_iff_toNat_lt.1 hD;omega),if_pos (UInt8.lt_iff_toNat_lt.2 ao)]
theorem s8.next{a b:aj}{i:Nat}(h:s8 a b i)(aw:i<a.length)(ab:i<b.length)(ao:dt a i=dt b i):s8 a b (i+1):=by
 rw[AA aw,AA ab] at ao;refine⟨?_⟩;rw[h.eq,yQ aw,yQ ab,Lib.compareBytes,if_neg (λhD=>by have:=UInt8.lt_iff_toNat_lt.1 hD;omega),if_neg (λhD=>by have:=UInt8.lt_iff_toNat_lt.1 hD;omega)]
theorem s8.fin{a b:aj}{i:Nat}(h:s8 a b i)(he:a.length<=i\/b.length<=i)(Ti:i<=a.length)(Tj:i<=b.length){r:Int}(a':(a.length<b.length/\r=-1)\/(b.length<a.length/\r=1)\/(a.length=b.length/\r=0)):r=Lib.compareBytes a b:=by
 rw[h.eq];rcases a' with ⟨h1,ah⟩|⟨h1,ah⟩|⟨h1,ah⟩
 . have ab:i<b.length:=(by omega);rw[List.drop_of_length_le (show a.length<=i by omega),yQ ab,ah];rfl
 . have aw:i<a.length:=(by omega);rw[List.drop_of_length_le (show b.length<=i by omega),yQ aw,ah];rfl
 . rw[List.drop_of_length_le (show a.length<=i by omega),List.drop_of_length_le (show b.length<=i by omega),ah];rfl
end Go.ak
namespace Go.ak
open Go.aH
def kO(c:Nat):Prop:=c<=1114111/\(c<55296\/57343<c)/\c≠65533
def hP(n:Nat):UInt8:=UInt8.ofNat n
def ei(c:Nat):aj:=
 if c<128 then[hP c] else if c<2048 then[hP (192+c / 64),hP (128+c % 64)]
 else if c<65536 then[hP (224+c / 4096),hP (128+c / 64 % 64),hP (128+c % 64)]
 else[hP (240+c / 262144),hP (128+c / 4096 % 64),hP (128+c / 64 % 64),hP (128+c % 64)]
theorem adp(r:Int)(h:Utf8.valid r=true):fB r=ei r.toNat:=by
 unfold fB Utf8.encode ei hP;simp only[h,if_true];by_cases h1:r.toNat<128
 . rw[if_pos h1,if_pos h1]
 . rw[if_neg h1,if_neg h1];by_cases ah:r.toNat<2048
   . rw[if_pos ah,if_pos ah]
   . rw[if_neg ah,if_neg ah];by_cases aB:r.toNat<65536
     . rw[if_pos aB,if_pos aB]
     . rw[if_neg aB,if_neg aB]
theorem yR{c:Nat}(h:kO c):fB (c:Int)=ei c:=by
 have cI:Utf8.valid (c:Int)=true:=(by rw[EI];exact decide_eq_true (by unfold kO at h;omega));have:=adp _ cI;rwa[Int.toNat_natCast] at this
theorem xx(n:Nat):(hP n).toNat=n % 256:=by unfold hP;simp
theorem we(s:aj)(k:Nat)(h:k<s.length):hP (dt s k)=s[k]:=by
 rw[AA h];unfold hP;simp
theorem xy{a b:Nat}(h:a=b):hP a=hP b:=by rw[h]
theorem take_one{s:aj}(h:1<=s.length):s.take 1=[hP (dt s 0)]:=by
 rw[we s 0 aa]
 match s,h with
 | a::r,_=>rfl
theorem adq{s:aj}(h:2<=s.length):s.take 2=[hP (dt s 0),hP (dt s 1)]:=by
 rw[we s 0 aa,we s 1 aa]
 match s,h with
 | a::b::r,_=>rfl
theorem adr{s:aj}(h:3<=s.length):s.take 3=[hP (dt s 0),hP (dt s 1),hP (dt s 2)]:=by
 rw[we s 0 aa,we s 1 aa,we s 2 aa]
 match s,h with
 | a::b::c::r,_=>rfl
theorem ads{s:aj}(h:4<=s.length):s.take 4=[hP (dt s 0),hP (dt s 1),hP (dt s 2),hP (dt s 3)]:=by
 rw[we s 0 aa,we s 1 aa,we s 2 aa,we s 3 aa]
 match s,h with
 | a::b::c::d::r,_=>rfl
theorem yS {s:aj} (aT:s≠[]) (h:(dec s).1≠65533):kO (dec s).1∧ei (dec s).1=s.take (dec s).2:=by
 have bj:1≤s.length:=(by cases s with|nil=>exact absurd rfl aT|cons a r=>simp);have hd:=L5 s 0;rw [List.drop_zero] at hd;rw [hd] at h ⊢;have m':=u0 s 0; have aK:=u0 s 1; have aR:=u0 s 2; have bz:=u0 s 3;have c1:hZ s 1=true→1 < s.length∧128≤dt s 1∧dt s 1≤191:=fun h=>tV.1 h
 have c2:hZ s 2=true→2 < s.length∧128≤dt s 2∧dt s 2≤191:=fun h=>tV.1 h
 have hE:hZ s 3=true→3 < s.length∧128≤dt s 3∧dt s 3≤191:=fun h=>tV.1 h
 simp only [Nat.zero_add] at h ⊢;unfold u1 at h ⊢;simp only [EI,Bool.and_eq_true,beq_iff_eq,decide_eq_true_eq] at h ⊢;split
 · rename_i bK;refine ⟨⟨by omega,by omega,by omega⟩,?_⟩;unfold ei;rw [if_pos bK,take_one bj]
 · rename_i bK;rw [if_neg bK] at h;split
   · rename_i h1;rw [if_pos h1] at h;have:=c1 h1.2;split
     · rename_i ah;rw [if_pos ah] at h;refine ⟨⟨by omega,by omega,h⟩,?_⟩;simp only;unfold ei;rw [if_neg aa,if_pos aa,adq aa];congr 1
       · exact xy aa
       · congr 1; exact xy aa
     · rename_i ah; rw [if_neg ah] at h; exact absurd rfl h
   · rename_i h1;rw [if_neg h1] at h;split
     · rename_i ah;rw [if_pos ah] at h;have:=c1 ah.1.2; have:=c2 ah.2;split
       · rename_i aB;rw [if_pos aB] at h;simp only at h;refine ⟨⟨by omega,by omega,h⟩,?_⟩;simp only;unfold ei;rw [if_neg aa,if_neg aa,if_pos aa,adr aa];congr 1
         · exact xy aa
         · congr 1
           · exact xy aa
           · congr 1; exact xy aa
       · rename_i aB; rw [if_neg aB] at h; exact absurd rfl h
     · rename_i ah;rw [if_neg ah] at h;split
       · rename_i aB;rw [if_pos aB] at h;have:=c1 aB.1.1.2; have:=c2 aB.1.2; have:=hE aB.2;split
         · rename_i bE;rw [if_pos bE] at h;simp only at h;refine ⟨⟨by omega,by omega,h⟩,?_⟩;simp only;unfold ei;rw [if_neg aa,if_neg aa,if_neg aa,ads aa];congr 1
           · exact xy aa
           · congr 1
             · exact xy aa
             · congr 1
               · exact xy aa
               · congr 1; exact xy aa
         · rename_i bE; rw [if_neg bE] at h; exact absurd rfl h
       · rename_i aB; rw [if_neg aB] at h; exact absurd rfl h
theorem HR(a:UInt8)(s:aj):dt (a::s) 0=a.toNat:=rfl
theorem Cr(a b:UInt8)(s:aj):dt (a::b::s) 1=b.toNat:=rfl
theorem HS(a b c:UInt8)(s:aj):dt (a::b::c::s) 2=c.toNat:=rfl
theorem Tk(a b c d:UInt8)(s:aj):dt (a::b::c::d::s) 3=d.toNat:=rfl
theorem Cs{s:aj}{k:Nat}(h:k<s.length/\128<=dt s k/\dt s k<=191):hZ s k=true:=tV.2 h
theorem L6{c:Nat}(h:kO c)(t:aj):dec (ei c++t)=(c,(ei c).length):=by
 have hd:=L5 (ei c++t) 0;rw[List.drop_zero] at hd;rw[hd];obtain⟨h1,ah,aB⟩:=h;unfold ei;simp only[Nat.zero_add];split
 . rename_i bK;simp only[List.cons_append,List.nil_append,HR,xx];unfold u1;rw[if_pos aa];simp only[List.length_cons,List.length_nil,Prod.mk.injEq,and_true];omega
 . rename_i bK;split
   . rename_i adt;have bC:hZ ([hP (192+c / 64),hP (128+c % 64)]++t) 1=true:=Cs bi;rw[bC];simp only[List.cons_append,List.nil_append,HR,Cr,xx];unfold u1;rw[if_neg aa,if_pos Ct,if_pos aa];simp only[List.length_cons,List.length_nil,Prod.mk.injEq,and_true];omega
   . rename_i adt;split
     . rename_i adu;have bC:hZ ([hP (224+c / 4096),hP (128+c / 64 % 64),hP (128+c % 64)]++t) 1=true:=Cs bi;have cy:hZ ([hP (224+c / 4096),hP (128+c / 64 % 64),hP (128+c % 64)]++t) 2=true:=Cs (by simp only[List.cons_append,List.nil_append,HS,xx,List.length_cons];omega);rw[bC,cy];simp only[List.cons_append,List.nil_append,HR,Cr,HS,xx];unfold u1;rw[if_neg aa,if_neg Ct,if_pos Ct,if_pos (by rw[EI];simp only[Bool.and_eq_true,decide_eq_true_eq];omega)];simp only[List.length_cons,List.length_nil,Prod.mk.injEq,and_true];omega
     . rename_i adu;have bC:hZ ([hP (240+c / 262144),hP (128+c / 4096 % 64),hP (128+c / 64 % 64),hP (128+c % 64)]++t) 1=true:=Cs bi;have cy:hZ ([hP (240+c / 262144),hP (128+c / 4096 % 64),hP (128+c / 64 % 64),hP (128+c % 64)]++t) 2=true:=Cs (by simp only[List.cons_append,List.nil_append,HS,xx,List.length_cons];omega);have dE:hZ ([hP (240+c / 262144),hP (128+c / 4096 % 64),hP (128+c / 64 % 64),hP (128+c % 64)]++t) 3=true:=Cs (by simp only[List.cons_append,List.nil_append,Tk,xx,List.length_cons];omega);rw[bC,cy,dE];simp only[List.cons_append,List.nil_append,HR,Cr,HS,Tk,xx];unfold u1;rw[if_neg aa,if_neg Ct,if_neg Ct,if_pos Ct,if_pos (by rw[EI];simp only[Bool.and_eq_true,decide_eq_true_eq];omega)];simp only[List.length_cons,List.length_nil,Prod.mk.injEq,and_true];omega
def im(s:aj):Prop:=65533∉hc s
theorem Tl{s:aj}:jX s=true↔im s:=by unfold jX im;exact decide_eq_true_iff
theorem yT{s:aj}(aT:s≠[]):im s↔(dec s).1≠65533/\im (s.drop (dec s).2):=by
 unfold im;rw[xv aT,List.mem_cons,not_or];exact⟨λh=>⟨λe=>h.1 e.symm,h.2⟩,λh=>⟨λe=>h.1 e.symm,h.2⟩⟩
theorem im.split{s:aj}(h:im s)(aT:s≠[]):kO (dec s).1/\s=ei (dec s).1++s.drop (dec s).2/\im (s.drop (dec s).2):=by
 have h1:=(yT aT).1 h;have ah:=yS aT h1.1;exact⟨ah.1,by rw[ah.2,List.take_append_drop],h1.2⟩
theorem L7(c:Nat):ei c≠[]:=by
 unfold ei;repeat' split
 all_goals simp
theorem Tm(c:Nat):1<=(ei c).length:=by
 unfold ei;repeat' split
 all_goals simp
theorem im.app{c:Nat}{t:aj}(ao:kO c)(a8:im t):im (ei c++t):=by
 have dG:ei c++t≠[]:=(by simp[L7]);rw[yT dG,L6 ao t];simp only[List.drop_left];exact⟨ao.2.2,a8⟩
theorem wg{c:Nat}(ao:kO c)(t:aj):hc (ei c++t)=c::hc t:=by
 have dG:ei c++t≠[]:=(by simp[L7]);rw[xv dG,L6 ao t];simp only[List.drop_left]
def so(rs:List Nat):aj:=rs.flatMap ei
theorem Tn:∀(rs:List Nat),(∀c∈rs,kO c)->hc (so rs)=rs
 | [],_=>xu
 | c::rs,h=>by
  show hc (ei c++so rs)=_
  rw[wg (h c dg),Tn rs λc ao=>h c (by simp[ao])]
theorem L8{p:aj->Prop}(bK:p [])(h1:∀c t,kO c->im t->p t->p (ei c++t)):∀s,im s->p s:=by
 have:∀n s,s.length<=n->im s->p s:=by
  intro n
  induction n with
  | zero=>intro s aT _;have:s=[]:=List.eq_nil_of_length_eq_zero aa;subst this;exact bK
  | succ n b' =>
   intro s aT bB
   by_cases he:s=[]
   . subst he;exact bK
   . obtain⟨g1,g2,g3⟩:=bB.split he
     have:=yI s he
     rw[g2]
     exact h1 _ _ g1 g3 (b' _ (by rw[List.length_drop];omega) g3)
 exact λs bB=>this _ s (Nat.le_refl _) bB
theorem HT(s:aj)(h:im s):so (hc s)=s/\∀c∈hc s,kO c:=by
 revert s
 refine L8 ⟨by rw[xu];rfl,by rw[xu];simp⟩ ?_;intro c t ao a8 b';rw[wg ao];refine⟨by show ei c++so (hc t)=_;rw[b'.1],λd hd=>?_⟩;rcases List.mem_cons.1 hd with rfl|hd
 . exact ao
 . exact b'.2 d hd
theorem To{s:aj}(h:im s):iP s=((hc s).length:Int):=by unfold iP;rw[if_neg h]
theorem adv{s:aj}(h:0<=iP s):im s:=by
 unfold iP at h;split at h
 . omega
 . assumption
theorem L9{s:aj}(h:word s=true):im s/\1<=(hc s).length/\(hc s).length<=12:=by
 unfold word at h;simp only[Bool.and_eq_true,decide_eq_true_eq] at h;have bB:=adv (by omega:0<=iP s);rw[To bB] at h;exact⟨bB,by omega,by omega⟩
end Go.ak
namespace Go.ak
open Go.aH
def nI(a b:aj):Prop:=Lib.compareBytes a b<0
theorem EL:∀(a:aj),Lib.compareBytes a a=0
 | []=>rfl
 | a::x=>by unfold Lib.compareBytes;rw[if_neg dg,if_neg dg];exact EL x
theorem cmp_eq:∀{a b:aj},Lib.compareBytes a b=0->a=b
 | [],[],_=>rfl
 | [],_::_,h=>by simp[Lib.compareBytes] at h
 | _::_,[],h=>by simp[Lib.compareBytes] at h
 | a::x,b::y,h=>by
  unfold Lib.compareBytes at h
  split at h
  . simp at h
  . split at h
    . simp at h
    . rename_i h1 ah
      have:a=b:=by
       apply UInt8.le_antisymm
       . exact UInt8.not_lt.1 ah
       . exact UInt8.not_lt.1 h1
      rw[this,cmp_eq h]
theorem Tp:∀(a b:aj),Lib.compareBytes a b=- Lib.compareBytes b a
 | [],[]=>rfl
 | [],_::_=>by simp[Lib.compareBytes]
 | _::_,[]=>by simp[Lib.compareBytes]
 | a::x,b::y=>by
  unfold Lib.compareBytes
  by_cases h1:a<b
  . have ah:¬ b<a:=UInt8.lt_asymm h1
    simp[h1,ah]
  . by_cases ah:b<a
    . simp[h1,ah]
    . simp only[h1,ah,if_false];exact Tp x y
theorem lt_trans:∀{a b c:aj},nI a b->nI b c->nI a c
 | [],[],_,h,_=>by simp[nI,Lib.compareBytes] at h
 | [],_::_,[],_,h=>by simp[nI,Lib.compareBytes] at h
 | [],_::_,_::_,_,_=>by simp[nI,Lib.compareBytes]
 | _::_,[],_,h,_=>by simp[nI,Lib.compareBytes] at h
 | _::_,_::_,[],_,h=>by simp[nI,Lib.compareBytes] at h
 | a::x,b::y,c::z,h1,ah=>by
  unfold nI Lib.compareBytes at *
  by_cases EM:a<b
  . by_cases AB:b<c
    . simp[UInt8.lt_trans EM AB]
    . by_cases EN:c<b
      . simp[AB,EN] at ah
      . have:b=c:=UInt8.le_antisymm (UInt8.not_lt.1 EN) (UInt8.not_lt.1 AB)
        subst this;simp[EM]
  . by_cases pC:b<a
    . simp[EM,pC] at h1
    . have:a=b:=UInt8.le_antisymm (UInt8.not_lt.1 pC) (UInt8.not_lt.1 EM)
      subst this
      simp only[EM,if_false] at h1
      by_cases AB:a<c
      . simp[AB]
      . by_cases EN:c<a
        . simp[AB,EN] at ah
        . simp only[AB,EN,if_false] at ah ⊢
          exact lt_trans (a:=x) (b:=y) (c:=z) h1 ah
theorem lt_irrefl(a:aj):¬ nI a a:=by unfold nI;rw[EL];omega
theorem adw{a b:aj}(h:¬ Lib.compareBytes a b<0)(aN:a≠b):nI b a:=by
 have h1:=Tp b a;have ah:Lib.compareBytes a b≠0:=λe=>aN (cmp_eq e)
 unfold nI;omega
def o8(l:List aj):Prop:=l.Pairwise nI
theorem Tq:∀{l:List aj},rising l=true->o8 l
 | [],_=>List.Pairwise.nil
 | [a],_=>by simp[o8]
 | a::b::r,h=>by
  simp only[rising,Bool.and_eq_true,decide_eq_true_eq] at h
  have b':=Tq h.2
  refine List.Pairwise.cons (λx ag=>?_) b'
  rcases List.mem_cons.1 ag with rfl|ag
  . exact h.1
  . exact lt_trans h.1 (List.rel_of_pairwise_cons b' ag)
theorem Tr:∀{l:List aj},o8 l->rising l=true
 | [],_=>rfl
 | [a],_=>rfl
 | a::b::r,h=>by
  have gN:=List.pairwise_cons.1 h
  simp only[rising,Bool.and_eq_true,decide_eq_true_eq]
  exact⟨gN.1 b dg,Tr gN.2⟩
theorem wh{l:List aj}(h:e6 l=0):l.length<=60/\(∀w∈l,word w=true)/\o8 l:=by
 unfold e6 at h;split at h
 . omega
 . split at h
   . split at h
     . rename_i h1 ah aB;exact⟨by omega,λw hw=>List.all_eq_true.1 ah w hw,Tq aB⟩
     . omega
   . omega
end Go.ak
namespace Go.ak
open Go.aH
structure ca where
 rune:Int
 to:Int
 deriving DecidableEq,Repr
def e0(x:ca):List Value:=[.int .i32 x.rune,.int .i64 x.to]
theorem lv(x:ca):(e0 x).length=2:=rfl
theorem u2(x:ca):(e0 x).all (·.oneCell')=true:=rfl
def ga(s:aj):Nat:=(dec s).1
def l3(s:aj):Nat:=(dec s).2
def dA(s:aj):aj:=s.take (dec s).2
def eY(p:aj)(l:List aj):List aj:=(l.takeWhile λt=>p.isPrefixOf t).map λt=>t.drop p.length
def l4(p:aj)(l:List aj):List aj:=l.dropWhile λt=>p.isPrefixOf t
def AD:Nat->List aj->List (Nat×List aj)
 | 0,_=>[]
 | _+1,[]=>[]
 | n+1,s::r=>(ga s,eY (dA s) (s::r))::AD n (l4 (dA s) (s::r))
def gZ(l:List aj):List (Nat×List aj):=AD l.length l
theorem AE(s:aj):(dA s).isPrefixOf s=true:=by
 rw[List.isPrefixOf_iff_prefix];exact List.take_prefix _ _
theorem AF(s:aj)(r:List aj):(l4 (dA s) (s::r)).length<=r.length:=by
 unfold l4;rw[List.dropWhile_cons,if_pos (AE s)];exact(List.dropWhile_suffix _).length_le
theorem Ts:∀(n m:Nat) (l:List aj),l.length<=n->l.length<=m->AD n l=AD m l
 | 0,0,_,_,_=>rfl
 | 0,m+1,l,h,_=>by have:l=[]:=List.eq_nil_of_length_eq_zero aa;subst this;rfl
 | n+1,0,l,_,h=>by have:l=[]:=List.eq_nil_of_length_eq_zero aa;subst this;rfl
 | n+1,m+1,[],_,_=>rfl
 | n+1,m+1,s::r,h1,ah=>by
  have:=AF s r
  simp only[List.length_cons] at h1 ah
  simp only[AD]
  rw[Ts n m _ aa aa]
theorem AG:gZ []=[]:=rfl
theorem Cu(s:aj)(r:List aj):gZ (s::r)=(ga s,eY (dA s) (s::r))::gZ (l4 (dA s) (s::r)):=by
 have:=AF s r;show AD (r.length+1) (s::r)=_;simp only[AD];rw[Ts r.length _ _ this (Nat.le_refl _)];rfl
theorem Tt(a b:UInt8)(s t:aj):Lib.compareBytes (a::s) (b::t)=if a<b then -1 else if b<a then 1 else Lib.compareBytes s t:=rfl
theorem adx(p s t:aj):Lib.compareBytes (p++s) (p++t)=Lib.compareBytes s t:=by
 induction p with
 | nil=>rfl
 | cons a p b'=>simp only[List.cons_append,Tt];rw[if_neg dg,if_neg dg,b']
theorem Tu:∀(p a b u:aj),Lib.compareBytes (p++a) u<0->Lib.compareBytes u (p++b)<0->p.isPrefixOf u=true
 | [],_,_,_,_,_=>rfl
 | x::p,a,b,[],h,_=>by simp[Lib.compareBytes] at h
 | x::p,a,b,y::u,h1,ah=>by
  simp only[List.cons_append,Tt] at h1 ah
  by_cases Cv:x<y
  . have:¬ y<x:=UInt8.lt_asymm Cv
    rw[if_neg this,if_pos Cv] at ah;omega
  . rw[if_neg Cv] at h1
    by_cases EO:y<x
    . rw[if_pos EO] at h1;omega
    . have e:x=y:=UInt8.le_antisymm (UInt8.not_lt.1 EO) (UInt8.not_lt.1 Cv)
      subst e
      rw[if_neg EO] at h1
      rw[if_neg EO,if_neg EO] at ah
      simp only[List.isPrefixOf,beq_self_eq_true,Bool.true_and]
      exact Tu p a b u h1 ah
structure gu(l:List aj):Prop where
 sorted:o8 l
 o9:∀s∈l,im s
theorem gu.tail{s:aj}{r:List aj}(h:gu (s::r)):gu r:=⟨(List.pairwise_cons.1 h.sorted).2,λt a8=>h.o9 t (by simp[a8])⟩
theorem L_{l m:List aj}(h:o8 l)(aT:m <:+ l):o8 m:=h.sublist aT.sublist
theorem gu.more{l:List aj}(h:gu l)(p:aj):gu (l4 p l):=
 ⟨L_ h.sorted (List.dropWhile_suffix _),λt a8=>h.o9 t ((List.dropWhile_suffix _).subset a8)⟩
theorem HU{α:Type}{p:α->Bool}:∀{l:List α} {x:α},x∈l.takeWhile p->p x=true/\x∈l
 | [],x,h=>by simp at h
 | y::l,x,h=>by
  rw[List.takeWhile_cons] at h
  split at h
  . rename_i aD
    rcases List.mem_cons.1 h with rfl|h
    . exact⟨aD,by simp⟩
    . exact⟨(HU h).1,by simp[(HU h).2]⟩
  . simp at h
theorem Cw{p t:aj}(h:p.isPrefixOf t=true):t=p++t.drop p.length:=by
 rw[List.isPrefixOf_iff_prefix] at h;obtain⟨u,rfl⟩:=h;simp
theorem Tv{p:aj}{l:List aj}{t:aj}(h:t∈eY p l):p++t∈l:=by
 unfold eY at h;obtain⟨u,hu,rfl⟩:=List.mem_map.1 h;have:=HU hu;rw[<-Cw this.1];exact this.2
theorem EP(p:aj)(l:List aj):(eY p l).map (p++·)++l4 p l=l:=by
 unfold eY l4;rw[List.map_map]
 have:(l.takeWhile λt=>p.isPrefixOf t).map ((p++·) ∘ λt=>t.drop p.length)=l.takeWhile λt=>p.isPrefixOf t:=by
  conv=>rhs;rw[<-List.map_id (l.takeWhile λt=>p.isPrefixOf t)]
  exact List.map_congr_left λt a8=>(Cw (HU a8).1).symm
 rw[this,List.takeWhile_append_dropWhile]
theorem ady{s:aj}{r:List aj}(h:gu (s::r)){p:aj}(hp:p.isPrefixOf s=true):∀t∈l4 p (s::r),p.isPrefixOf t=false:=by
 intro t a8
 cases ab:p.isPrefixOf t with
 | false=>rfl
 | true =>
  exfalso;have aT:l4 p (s::r) <:+ s::r:=List.dropWhile_suffix _
  cases hm:l4 p (s::r) with
  | nil=>rw[hm] at a8;simp at a8
  | cons u m =>
   have hu:p.isPrefixOf u=false:=by
    have:=List.head?_dropWhile_not (λt=>p.isPrefixOf t) (s::r)
    unfold l4 at hm
    rw[hm] at this
    simpa using this
   rw[hm] at a8;have ER:=L_ h.sorted aT;rw[hm] at ER;have adz:u≠s:=λe=>by rw[e,hp] at hu;cases hu
   have adA:u∈s::r:=aT.subset (by rw[hm];simp)
   have h1:nI s u:=by
    rcases List.mem_cons.1 adA with e|e
    . exact absurd e adz
    . exact(List.pairwise_cons.1 h.sorted).1 u e
   rcases List.mem_cons.1 a8 with rfl|a8
   . rw[ab] at hu;cases hu
   . have ah:nI u t:=(List.pairwise_cons.1 ER).1 t a8;have fS:=Cw hp;have jd:=Cw ab;have:=Tu p (s.drop p.length) (t.drop p.length) u (by rw[<-fS];exact h1) (by rw[<-jd];exact ah);rw[this] at hu;cases hu
theorem Tw{s:aj}{r:List aj}(h:gu (s::r))(aT:s≠[]):gu (eY (dA s) (s::r)):=by
 have q1:=(h.o9 s dg).split aT;have hp:dA s=ei (ga s):=(yS aT ((yT aT).1 (h.o9 s dg)).1).2.symm;refine⟨?_,λt a8=>?_⟩
 . have:o8 ((eY (dA s) (s::r)).map (dA s++·)):=h.sorted.sublist (by
    conv=>rhs;rw[<-EP (dA s) (s::r)]
    exact List.sublist_append_left _ _)
   unfold o8 at this ⊢;rw[List.pairwise_map] at this;exact this.imp λ{a b} mG=>by unfold nI at mG ⊢;rwa[adx] at mG
 . have hm:=h.o9 _ (Tv a8);rw[hp] at hm;have ah:=(yT (by simp[L7]):im (ei (ga s)++t)↔_).1 hm;have e:=L6 q1.1 t;unfold ga at ah;rw[e] at ah;simpa using ah.2
structure adB(l:List aj)(gs:List (Nat×List aj)):Prop where
 all:gs.flatMap (λg=>g.2.map (ei g.1++·))=l
 fO:∀g∈gs,kO g.1/\g.2≠[]/\gu g.2
 part:gs.Pairwise λa b=>a.1≠b.1
theorem xz:∀(n:Nat) (l:List aj),l.length<=n->gu l->(∀s∈l,s≠[])->adB l (gZ l)
 | _,[],_,_,_=>⟨rfl,by simp[AG],by simp[AG]⟩
 | 0,s::r,h,_,_=>by simp at h
 | n+1,s::r,aN,h,dG=>by
  have bj:=AF s r
  simp only[List.length_cons] at aN
  have aT:=dG s dg
  have bB:=h.o9 s dg
  have q1:=bB.split aT
  have hp:dA s=ei (ga s):=(yS aT ((yT aT).1 bB).1).2.symm
  have b':=xz n (l4 (dA s) (s::r)) aa (h.more _) (λt a8=>dG t ((List.dropWhile_suffix _).subset a8))
  rw[Cu]
  refine⟨?_,?_,?_⟩
  . simp only[List.flatMap_cons]
    rw[b'.all,<-hp,EP]
  . intro g aU
    rcases List.mem_cons.1 aU with rfl|aU
    . refine⟨q1.1,?_,Tw h aT⟩
      unfold eY
      rw[List.takeWhile_cons,if_pos (AE s)];simp
    . exact b'.fO g aU
  . refine List.pairwise_cons.2 ⟨λg aU e=>?_,b'.part⟩
    have adC:=b'.fO g aU
    obtain⟨t,a8⟩:∃t,t∈g.2:=by
     cases eH:g.2 with
     | nil=>exact absurd eH adC.2.1
     | cons t _=>exact⟨t,by simp⟩
    have hm:ei g.1++t∈l4 (dA s) (s::r):=by
     rw[<-b'.all]
     exact List.mem_flatMap.2 ⟨g,aU,List.mem_map.2 ⟨t,a8,rfl⟩⟩
    have:=ady h (AE s) _ hm
    rw[hp,<-e] at this
    have adD:(ei (ga s)).isPrefixOf (ei (ga s)++t)=true:=by rw[List.isPrefixOf_iff_prefix];exact List.prefix_append _ _
    simp only at this
    rw[adD] at this;cases this
abbrev c5:=List (List aj×List ca)
def fE:List aj->List aj
 | []::r=>r
 | l=>l
def lL(add:c5->List aj->c5×Nat):c5->List (Nat×List aj)->c5×List ca
 | s,[]=>(s,[])
 | s,g::gs=>((lL add (add s g.2).1 gs).1,⟨(g.1:Int),((add s g.2).2:Int)⟩::(lL add (add s g.2).1 gs).2)
def e1:Nat->c5->List aj->c5×Nat
 | 0,s,_=>(s,0)
 | f+1,s,aI =>
  match s.findIdx? λx=>x.1==aI with
  | some i=>(s,i)
  | none=>((lL (e1 f) (s++[(aI,[])]) (gZ (fE aI))).1.set s.length (aI,(lL (e1 f) (s++[(aI,[])]) (gZ (fE aI))).2),s.length)
def s9(words:List aj):c5:=(e1 13 [] words).1
def o_(s:c5)(x:List aj×List ca):Prop:=cZ (λg e=>e.rune=(g.1:Int)/\∃(j:Nat) (es:List ca),e.to=(j:Int)/\s[j]?=some (g.2,es)) (gZ (fE x.1)) x.2
def Deep(n:Nat)(l:List aj):Prop:=∀t∈l,(hc t).length<=n
structure AH(s:c5)(n:Nat)(x:List aj×List ca):Prop where
 wi:o_ s x
 fO:gu x.1
 ne:x.1≠[]
 deep:Deep n x.1
def names(s:c5):List (List aj):=s.map Prod.fst
theorem adE{s:c5}{r:List aj}{i:Nat}(h:(s.findIdx? λx=>x.1==r)=some i):∃es,s[i]?=some (r,es):=by
 obtain⟨h1,ah,_⟩:=List.findIdx?_eq_some_iff_getElem.1 h;refine⟨s[i].2,?_⟩;rw[List.getElem?_eq_getElem h1];have:s[i].1=r:=by simpa using ah
 rw[<-this]
theorem L'{s:c5}{r:List aj}(h:(s.findIdx? λx=>x.1==r)=none):r∉names s:=by
 intro hm;obtain⟨x,ag,rfl⟩:=List.mem_map.1 hm;have:=List.findIdx?_eq_none_iff.1 h x ag;simp at this
theorem u3{l:List aj}(h:gu l):gu (fE l)/\(∀s∈fE l,s≠[]):=by
 cases l with
 | nil=>exact⟨h,by simp[fE]⟩
 | cons a r =>
  cases a with
  | nil =>
   refine⟨h.tail,λs aT e=>?_⟩;have:=(List.pairwise_cons.1 h.sorted).1 s aT;subst e;exact lt_irrefl _ this
  | cons x a =>
   refine⟨h,λs aT e=>?_⟩;subst e;rcases List.mem_cons.1 aT with e|aT
   . cases e
   . have:=(List.pairwise_cons.1 h.sorted).1 _ aT;simp[nI,Lib.compareBytes] at this
theorem AI{l:List aj}{t:aj}(h:t∈fE l):t∈l:=by
 cases l with
 | nil=>exact h
 | cons a r =>
  cases a with
  | nil=>exact List.mem_cons_of_mem _ h
  | cons x a=>exact h
theorem Tx{n:Nat}{l:List aj}(aU:gu l)(h:Deep (n+1) l):∀g∈gZ (fE l),Deep n g.2:=by
 intro g iQ t a8;have hd:=u3 aU;have ok:=xz _ _ (Nat.le_refl _) hd.1 hd.2
 have hm:ei g.1++t∈fE l:=by
  rw[<-ok.all]
  exact List.mem_flatMap.2 ⟨g,iQ,List.mem_map.2 ⟨t,a8,rfl⟩⟩
 have:=h _ (AI hm);rw[wg (ok.fO g iQ).1] at this;simp only[List.length_cons] at this;omega
theorem o_.grow{s jT:c5}{x:List aj×List ca}(h:o_ s x)(aT:∀(j:Nat) (r:List aj) (es:List ca),s[j]?=some (r,es)->∃rM,jT[j]?=some (r,rM)):o_ jT x:=
 cZ.imp (λg e ⟨h1,j,es,ah,aB⟩=>⟨h1,j,(aT j _ _ aB).choose,ah,(aT j _ _ aB).choose_spec⟩) h
theorem AH.grow{s jT:c5}{n m:Nat}{x:List aj×List ca}(h:AH s n x)(aT:∀(j:Nat) (r:List aj) (es:List ca),s[j]?=some (r,es)->∃rM,jT[j]?=some (r,rM))(hm:n<=m):AH jT m x:=
 ⟨h.wi.grow aT,h.fO,h.ne,λt a8=>Nat.le_trans (h.deep t a8) hm⟩
theorem adF(s t:c5):∀(j:Nat) (r:List aj) (es:List ca),s[j]?=some (r,es)->∃rM,(s++t)[j]?=some (r,rM):=λj r es h=>⟨es,by rw[List.getElem?_append_left (List.getElem?_eq_some_iff.1 h).1];exact h⟩
structure Ty(n:Nat)(s:c5)(aI:List aj)(q:c5×Nat):Prop where
 tail:∃t,q.1=s++t/\∀x∈t,AH q.1 n x
 here:∃es,q.1[q.2]?=some (aI,es)
 apart:(names q.1).Nodup
structure Tz(n:Nat)(s:c5)(gs:List (Nat×List aj))(q:c5×List ca):Prop where
 tail:∃t,q.1=s++t/\∀x∈t,AH q.1 n x
 yU:cZ (λg e=>e.rune=(g.1:Int)/\∃(j:Nat) (es:List ca),e.to=(j:Int)/\q.1[j]?=some (g.2,es)) gs q.2
 apart:(names q.1).Nodup
theorem TA{n:Nat}{add:c5->List aj->c5×Nat}:∀(gs:List (Nat×List aj)) (s:c5),(∀g∈gs,∀s,(names s).Nodup->Ty n s g.2 (add s g.2))->(names s).Nodup->Tz n s gs (lL add s gs)
 | [],s,_,hd=>⟨⟨[],by simp[lL],by simp⟩,.nil,hd⟩
 | g::gs,s,TB,hd=>by
  have h1:=TB g dg s hd
  have ah:=TA gs (add s g.2).1 (λfv s_=>TB fv (by simp[s_])) h1.apart
  obtain⟨t1,fS,bC⟩:=h1.tail
  obtain⟨t2,jd,cy⟩:=ah.tail
  refine⟨⟨t1++t2,?_,?_⟩,?_,ah.apart⟩
  . show(lL add (add s g.2).1 gs).1=_
    rw[jd,fS,List.append_assoc]
  . intro x ag
    show AH (lL add (add s g.2).1 gs).1 n x
    rcases List.mem_append.1 ag with ag|ag
    . rw[jd]
      exact(bC x ag).grow (adF _ _) (Nat.le_refl _)
    . exact cy x ag
  . refine .cons ⟨rfl,(add s g.2).2,?_⟩ ah.yU
    obtain⟨es,he⟩:=h1.here
    refine⟨es,rfl,?_⟩
    show(lL add (add s g.2).1 gs).1[_]?=_
    rw[jd,List.getElem?_append_left (List.getElem?_eq_some_iff.1 he).1];exact he
theorem adG{s:c5}{i:Nat}{r:List aj}{es rM:List ca}(h:s[i]?=some (r,es)):names (s.set i (r,rM))=names s:=by
 unfold names;rw[List.map_set];refine List.ext_getElem? λj=>?_
 rw[List.getElem?_set];split
 . rename_i mY;subst mY;have hL:=(List.getElem?_eq_some_iff.1 h).1;rw[if_pos (by simpa using hL),List.getElem?_map,h];rfl
 . rfl
theorem AJ:∀(f:Nat) (s:c5) (aI:List aj),Deep f aI->gu aI->aI≠[]->(names s).Nodup->Ty f s aI (e1 (f+1) s aI)
 | f,s,aI,hd,aU,dG,aN=>by
  unfold e1
  cases ar:s.findIdx? λx=>x.1==aI with
  | some i=>exact⟨⟨[],by simp,by simp⟩,adE ar,aN⟩
  | none =>
   simp only
   have fW:=L' ar
   have nf:(names (s++[(aI,[])])).Nodup:=by
    unfold names
    rw[List.map_append,List.nodup_append]
    refine⟨aN,by simp,λa aw b ab=>?_⟩
    simp only[List.map_cons,List.map_nil,List.mem_singleton] at ab
    subst ab
    exact λe=>fW (by rw[<-e];exact aw)
   have AK:=u3 aU
   have ok:=xz _ _ (Nat.le_refl _) AK.1 AK.2
   have HV:Tz (f-1) (s++[(aI,[])]) (gZ (fE aI)) (lL (e1 f) (s++[(aI,[])]) (gZ (fE aI))):=by
    refine TA _ _ (λg iQ jT Aq=>?_) nf
    cases f with
    | zero =>
     exfalso
     obtain⟨t,a8⟩:∃t,t∈g.2:=by
      cases eH:g.2 with
      | nil=>exact absurd eH (ok.fO g iQ).2.1
      | cons t _=>exact⟨t,by simp⟩
     have hm:ei g.1++t∈fE aI:=by
      rw[<-ok.all]
      exact List.mem_flatMap.2 ⟨g,iQ,List.mem_map.2 ⟨t,a8,rfl⟩⟩
     have:=hd _ (AI hm)
     rw[wg (ok.fO g iQ).1] at this
     simp at this
    | succ f =>
     have h1:=AJ f jT g.2 (Tx aU hd g iQ) (ok.fO g iQ).2.2 (ok.fO g iQ).2.1 Aq
     exact h1
   generalize lL (e1 f) (s++[(aI,[])]) (gZ (fE aI))=q at HV
   obtain⟨t,fS,bC⟩:=HV.tail
   have na:q.1[s.length]?=some (aI,[]):=by rw[fS];simp
   have adH:q.1.set s.length (aI,q.2)=s++(aI,q.2)::t:=by
    rw[fS,List.append_assoc,List.set_append_right _ _ (Nat.le_refl _)]
    simp
   have p6:∀(j:Nat) (r:List aj) (es:List ca),q.1[j]?=some (r,es)->∃rM,(q.1.set s.length (aI,q.2))[j]?=some (r,rM):=by
    intro j r es bo
    by_cases oH:s.length=j
    . subst oH
      rw[na] at bo
      simp only[Option.some.injEq,Prod.mk.injEq] at bo
      refine⟨q.2,?_⟩
      rw[List.getElem?_set_self (List.getElem?_eq_some_iff.1 na).1,bo.1]
    . exact⟨es,by rw[List.getElem?_set_ne oH];exact bo⟩
   refine⟨⟨(aI,q.2)::t,adH,λx ag=>?_⟩,⟨q.2,?_⟩,?_⟩
   . rcases List.mem_cons.1 ag with rfl|ag
     . refine⟨?_,aU,dG,hd⟩
       exact cZ.imp (λg e ⟨h1,j,es,ah,aB⟩=>⟨h1,j,(p6 j _ _ aB).choose,ah,(p6 j _ _ aB).choose_spec⟩) HV.yU
     . exact(bC x ag).grow p6 aa
   . show(q.1.set s.length (aI,q.2))[s.length]?=_
     rw[List.getElem?_set_self (List.getElem?_eq_some_iff.1 na).1]
   . show(names (q.1.set s.length (aI,q.2))).Nodup
     rw[adG na];exact HV.apart
structure TC(s:c5)(words:List aj):Prop where
 root:∃es,s[0]?=some (words,es)
 node:∀x∈s,AH s 12 x
 apart:(names s).Nodup
theorem Cx{words:List aj}(hd:Deep 12 words)(aU:gu words)(dG:words≠[]):TC (s9 words) words:=by
 have h:=AJ 12 [] words hd aU dG (by simp[names]);obtain⟨t,e,k⟩:=h.tail
 have s':(e1 13 [] words).2=0:=by
  unfold e1;simp
 refine⟨?_,λx ag=>?_,h.apart⟩
 . have:=h.here;rw[s'] at this;exact this
 . unfold s9 at ag ⊢;rw[e] at ag;exact k x uV
theorem ta{l:List aj}(h:e6 l=0):gu l/\Deep 12 l:=by
 have hw:=wh h;exact⟨⟨hw.2.2,λs aT=>(L9 (hw.2.1 s aT)).1⟩,λs aT=>(L9 (hw.2.1 s aT)).2.2⟩
end Go.ak
namespace Go.aH
open Go
section
variable {α:Type} {enc:α->List Value} {e:TypeId} {sz:Nat} {w:World} {g:Nat} {v:Value} {l:List α}
theorem TD(dI:∀x,(enc x).length=sz):∀(l:List α) (i:Nat) (x:α) (h:i<l.length),(l.set i x).flatMap enc=(l.flatMap enc).take (i*sz)++enc x++(l.flatMap enc).drop (i*sz+sz)
 | y::l,0,x,_=>by
  have fS:(enc y++l.flatMap enc).drop sz=l.flatMap enc:=by rw[<-dI y];exact List.drop_left
  simp only[List.set_cons_zero,List.flatMap_cons,Nat.zero_mul,List.take_zero,List.nil_append,Nat.zero_add,fS]
 | y::l,i+1,x,h=>by
  have b':=TD dI l i x (by simpa using h)
  have fS:(i+1)*sz=(enc y).length+i*sz:=by rw[dI,Nat.add_mul];omega
  have jd:(i+1)*sz+sz=(enc y).length+(i*sz+sz):=by rw[fS,Nat.add_assoc]
  simp only[List.set_cons_succ,List.flatMap_cons]
  rw[fS,Nat.add_assoc,List.take_append,List.drop_append,List.take_of_length_le aa,List.drop_of_length_le aa,Nat.add_sub_cancel_left,Nat.add_sub_cancel_left,b']
  simp
theorem Acc.at(h:Acc enc e sz w g v l){P:Program}{t:TypeId}{by_:Nat}{fR:Bool}{z:List Value}(a8:P.underlying t=some (.slice e))(he:ey P e=some (fR,sz,by_,z)){k:IntKind}{n:Int}(i:Nat)(aN:n=(i:Int))(ar:i<l.length):
 (∀w,(Instr.indexAt t v (.int k n)).run P w=.ok (ptr (g-1) (i*sz)) w)/\∃x,l[i]?=some x:=by
 rcases h with ⟨_,rfl,_⟩|⟨b,cap,cur,rfl,rfl,ah,aB,bE,c6,eZ⟩
 . simp at ar
 . refine⟨λw=>?_,l[i],by simp[ar]⟩;have bK:(0:Int)<=n/\n<(l.length:Int):=(by omega);have fS:n.toNat=i:=(by omega);simp[Instr.indexAt,asIntOf,run_underlying a8,bK,run_sizeOf he,add_lit,ptr,fS]
theorem gB.oI{P:Program}{E:Env}{d:Option Tmp}{ty:TypeId}{pos:String}{af:Array Edge}{gd:Option (Nat×Bool)}{K:Value->World->Prop}{t:TypeId}{x y:Operand}{u:Value}{off n by_:Nat}{fR:Bool}{z vs:List Value}
 (h:Acc enc e sz w g v l) (dI:∀x,(enc x).length=sz) {i o:Nat} {n':α} (hold:l[i]?=some n') (q3:α) (a8:ey P t=some (fR,n,by_,z)) (ag:aO E x=some (ptr (g-1) off)) (tW:off=i*sz+o) (aD:aO E y=some u)
 (cI:u.cells.toList=vs) (aN:vs.length=n) (h1:vs.all (·.oneCell')=true) (eh:o+n<=sz) (adI:enc q3=(enc n').take o++vs++(enc n').drop (o+n))
 (eR:∀an,Mod (b_ g) w an->an.heap.size=w.heap.size->Acc enc e sz an g v (l.set i q3)->K undef an):gB P ⟨d,.store t x y,ty,pos,af,gd⟩ E w K:=λa aw=>by
 obtain⟨ar,rfl⟩:=List.getElem?_eq_some_iff.1 hold
 subst tW
 rcases h with ⟨_,rfl,_⟩|⟨b,cap,cur,rfl,rfl,ah,aB,bE,c6,eZ⟩
 . simp at ar
 . have tL:=rF dI l
   have nb:i*sz+sz<=l.length*sz:=by
    have:=Nat.mul_le_mul_right sz (show i+1<=l.length by omega)
    rw[Nat.add_mul] at this;omega
   have adJ:l.length*sz<=cap*sz:=Nat.mul_le_mul_right _ aB
   simp only[Nat.add_sub_cancel] at ag
   have mF:=run_storeCells_at P b (i*sz+o) e vs 0 cur w ah aa (λu hu=>List.all_eq_true.1 h1 u hu)
   have adK:u.cells.size=n:=by rw[<-Array.length_toList,cI];exact aN
   have key:=TD dI l i q3 ar
   have HC:=(Hx dI l i ar).1
   have h:=eR (w.setRow b (cur.toList.take (i*sz+o)++vs++cur.toList.drop (i*sz+o+n)).toArray) ((Hy _ _ _).weaken (λi ar _=>by unfold b_;omega)) (by simp[World.setRow]) (.inr ⟨b,cap,_,rfl,by simp,setRow_heap w b cur _ e (0,0) ah,by simpa using aB,bE,by simp;omega,by
    rw[List.length_set,key,adI]
    have hM:cur.toList.length=cap*sz:=by simpa using c6
    have fS:(l.flatMap enc).take (i*sz)=cur.toList.take (i*sz):=by
     rw[<-eZ,List.take_take,Nat.min_eq_left aa]
    have jd:(enc l[i]).take o=(cur.toList.drop (i*sz)).take o:=by
     rw[<-HC,List.take_take,Nat.min_eq_left aa,<-eZ,List.drop_take,List.take_take,Nat.min_eq_left aa]
    have tP:(enc l[i]).drop (o+n)=(cur.toList.drop (i*sz+(o+n))).take (sz-(o+n)):=by
     rw[<-HC,<-eZ,List.drop_take,List.drop_drop,List.drop_take,List.take_take,Nat.min_eq_left aa]
    have ES:(l.flatMap enc).drop (i*sz+sz)=(cur.toList.drop (i*sz+sz)).take (l.length*sz-(i*sz+sz)):=by
     rw[<-eZ,List.drop_take]
    rw[fS,jd,tP,ES]
    have Ma:cur.toList.take (i*sz+o)=cur.toList.take (i*sz)++(cur.toList.drop (i*sz)).take o:=by rw[List.take_add]
    have Mb:(cur.toList.drop (i*sz+o+n)).take (l.length*sz-(i*sz+o+n))=(cur.toList.drop (i*sz+(o+n))).take (sz-(o+n))++(cur.toList.drop (i*sz+sz)).take (l.length*sz-(i*sz+sz)):=by
     have:l.length*sz-(i*sz+o+n)=(sz-(o+n))+(l.length*sz-(i*sz+sz)):=by omega
     rw[this,List.take_add,List.drop_drop]
     congr 3<;>omega
    rw[List.toList_toArray]
    rw[List.take_append,List.take_of_length_le (by simp;omega)]
    have Mc:l.length*sz-(cur.toList.take (i*sz+o)++vs).length=l.length*sz-(i*sz+o+n):=by
     simp only[List.length_append,List.length_take,hM];omega
    rw[Mc,Mb,Ma]
    simp only[List.append_assoc]⟩)
   simp only[Nat.add_zero,aN] at mF
   simp[execOp,aw.aO ag,aw.aO aD,ptr,Instr.storeAt,Instr.sureAddr,storeVar,run_sizeOf a8,adK,cI,mF,out]
   simpa using h
theorem Acc.shape(h:Acc enc e sz w g v l):∃a c,v=.slice a l.length c:=by
 obtain⟨a,c,h1,_⟩:=h.ch;exact⟨a,c,h1⟩
theorem Acc.cast{jV:List α}(h:Acc enc e sz w g v l)(nD:l=jV):Acc enc e sz w g v jV:=nD▸h
theorem TE(z:List Value)(cO:0<z.length):∀n:Nat,(madeCells z.toArray (n*z.length)).toList=(List.replicate n z).flatten
 | 0=>by simp[madeCells]
 | n+1=>by
  have b':=TE z cO n
  rw[List.replicate_succ',List.flatten_append,<-b']
  unfold madeCells
  simp only[List.size_toArray,Array.toList_map,Array.toList_range,Nat.add_mul,Nat.one_mul,List.flatten_cons,List.flatten_nil,List.append_nil]
  rw[List.range_add,List.map_append]
  congr 1
  rw[List.map_map]
  refine List.ext_getElem dg λi h1 ah=>?_
  simp only[List.length_map,List.length_range] at h1
  simp[Nat.mod_eq_of_lt h1,h1]
theorem gB.makeSlice{P:Program}{E:Env}{d:Option Tmp}{ty:TypeId}{pos:String}{af:Array Edge}{gd:Option (Nat×Bool)}{K:Value->World->Prop}{t:TypeId}{x y:Operand}{TF HW:IntKind}{by_:Nat}{fR:Bool}{z:List Value}
 (n:Nat) (Cy:α) (a8:P.underlying t=some (.slice e)) (he:ey P e=some (fR,sz,by_,z)) (bK:0<sz) (yV:enc Cy=z) (dI:∀x,(enc x).length=sz) {p q:Int} (ag:aO E x=some (.int TF p)) (aD:aO E y=some (.int HW q)) (hp:p=(n:Int)) (dH:q=(n:Int)) (ab:n*by_<=140737488355328) (hm:n<=maxLen)
 (eR:∀gQ fv an,Ext w an->fv=w.heap.size+1->an.heap.size=w.heap.size+1->Acc enc e sz an fv gQ (List.replicate n Cy)->K gQ an) :
 gB P ⟨d,.makeSlice t x y,ty,pos,af,gd⟩ E w K:=λa aw=>by
 subst hp dH
 obtain⟨i,jD,jS,rJ,i2,i3,i4,i5,Ew,Su⟩:=Ch he
 have ET:(n:Int)<=9223372036854775807:=by have:n<=9223372036854775807:=hm;omega
 have TG:(i.bytes:Int)*(n:Int)<=281474976710656:=by
  rw[i5]
  have:((n*by_:Nat):Int)<=140737488355328:=by omega
  rw[Int.natCast_mul,Int.mul_comm] at this;omega
 have a':=run_make (P:=P) w t e i jS a8 rJ i3 TF HW (n:Int) (n:Int) aa (Int.le_refl _) TG ET
 simp only[Int.toNat_natCast] at a'
 have vY:z.length=sz:=by rw[<-yV];exact dI _
 have fS:jS.cells=z.toArray:=by rw[<-Ew]
 have ao:(madeCells jS.cells (n*i.size)).toList=(List.replicate n z).flatten:=by
  rw[fS,i4,<-vY];exact TE z aa n
 have h:=eR _ _ (w.alloc (.cells (madeCells jS.cells (n*i.size)) e)) (Mod.alloc _ _ _) rfl dg (.inr ⟨w.heap.size,n,_,rfl,rfl,heap_alloc_new w _,by simp,hm,by rw[size_madeCells,i4],by
  rw[List.length_replicate,ao]
  have:(List.replicate n z).flatten=(List.replicate n Cy).flatMap enc:=by
   rw[List.flatMap_def,List.map_replicate,yV]
  rw[this,List.take_of_length_le]
  rw[rF dI,List.length_replicate];exact Nat.le_refl _⟩)
 simp only[List.length_replicate] at h
 simp[execOp,aw.aO ag,aw.aO aD,a',out]
 exact h
section
variable {P:Program} {E:Env} {d:Option Tmp} {ty:TypeId} {pos:String} {af:Array Edge} {gd:Option (Nat×Bool)} {K:Value->World->Prop} {t:TypeId} {x y:Operand} {by_:Nat} {fR:Bool} {z:List Value}
theorem asF.at{b:Nat}(k:IntKind)(nl n:Nat)(a8:P.underlying t=some (.slice e))(he:ey P e=some (fR,sz,by_,z)){p:Int}(i:Nat)(hp:p=(i:Int))(ar:i<n):∀w,(Instr.indexAt t (.slice (some ⟨b,nl*sz,none⟩) n n) (.int k p)).run P w=.ok (ptr b (nl*sz+i*sz)) w:=λw=>by
 have bK:(0:Int)<=p/\p<(n:Int):=by omega
 have fS:p.toNat=i:=by omega
 simp[Instr.indexAt,asIntOf,run_underlying a8,bK,run_sizeOf he,add_lit,ptr,fS]
end
end
end Go.aH
set_option linter.unusedSectionVars false
namespace Go.aH
open Go
section
variable {P:Program} {E:Env} {C:World->Prop} {d:Option Tmp} {ty:TypeId} {pos:String} {af:Array Edge} {gd:Option (Nat×Bool)} {w:World} {K:Value->World->Prop}
theorem TH(op:BinOp)(t:TypeId)(x y:Operand)(w:World)(a b:Option Addr):(eqGuard op t x y (.pointer a) (.pointer b)).run P w=.ok () w:=by
 unfold eqGuard;split<;>simp
theorem bx.og{xt yt e:TypeId}{x y:Operand}{a:Option Addr}(hu:P.underlying xt=some (.pointer e))(ag:aO E x=some (.pointer a))(aD:aO E y=some (.pointer none)):bx P ⟨d,.binOp .eql xt x y yt,ty,pos,af,gd⟩ E C (.bool a.isNone):=λs aw w _=>by
 have h:(Op.equal xt (.pointer a) (.pointer none)).run P w=.ok a.isNone w:=by
  have key:∀n,(Op.equalIn (n+1) xt (.pointer a) (.pointer none)).run P w=.ok a.isNone w:=λn=>by
   cases a<;>simp[Op.equalIn,run_underlying hu]
  exact key 9999
 simp[execOp,aw.aO ag,aw.aO aD,TH,Go.binOp,h]
theorem bx.EU{xt yt e:TypeId}{x y:Operand}{a:Option Addr}(hu:P.underlying xt=some (.pointer e))(ag:aO E x=some (.pointer a))(aD:aO E y=some (.pointer none)):bx P ⟨d,.binOp .neq xt x y yt,ty,pos,af,gd⟩ E C (.bool (!a.isNone)):=λs aw w _=>by
 have h:(Op.equal xt (.pointer a) (.pointer none)).run P w=.ok a.isNone w:=by
  have key:∀n,(Op.equalIn (n+1) xt (.pointer a) (.pointer none)).run P w=.ok a.isNone w:=λn=>by
   cases a<;>simp[Op.equalIn,run_underlying hu]
  exact key 9999
 simp[execOp,aw.aO ag,aw.aO aD,TH,Go.binOp,h]
theorem bx.adL{x:Operand}{b off:Nat}(ag:aO E x=some (ptr b off)):bx P ⟨d,.nilCheck x,ty,pos,af,gd⟩ E C (ptr b off):=λa aw w _=>by
 simp[execOp,aw.aO ag,ptr]
theorem bx.Cz{xt yt:TypeId}{x y:Operand}{xs ys:Array Value}{q:Bool}(aU:P.eqGuardType P.depth xt=false)(dH:∀w,(Op.equalIn 10000 xt (.agg xs) (.agg ys)).run P w=.ok q w)(ag:aO E x=some (.agg xs))(aD:aO E y=some (.agg ys)):bx P ⟨d,.binOp .eql xt x y yt,ty,pos,af,gd⟩ E C (.bool q):=λa aw w _=>by
 simp[execOp,aw.aO ag,aw.aO aD,run_eqGuard_agg _ _ _ _ _ _ _ aU,run_eql_struct,dH w,Result.andThen]
theorem bx.Md{xt yt:TypeId}{x y:Operand}{xs ys:Array Value}{q:Bool}(aU:P.eqGuardType P.depth xt=false)(dH:∀w,(Op.equalIn 10000 xt (.agg xs) (.agg ys)).run P w=.ok q w)(ag:aO E x=some (.agg xs))(aD:aO E y=some (.agg ys)):bx P ⟨d,.binOp .neq xt x y yt,ty,pos,af,gd⟩ E C (.bool (!q)):=λa aw w _=>by
 simp[execOp,aw.aO ag,aw.aO aD,run_eqGuard_agg _ _ _ _ _ _ _ aU,run_neq_struct,dH w,Result.andThen]
theorem bx.field{xt:TypeId}{x:Operand}{i:Nat}{vs:Array Value}{v:Value}(ag:aO E x=some (.agg vs))(a':∀w,(Instr.field xt (.agg vs) i).run P w=.ok v w):bx P ⟨d,.field xt x i,ty,pos,af,gd⟩ E C v:=λa aw w _=>by
 simp[execOp,aw.aO ag,a' w]
theorem bx.makeFunc{fn:Fn}{lu cs:Array Operand}{first cap:List Value}(h1:qY E lu.toList=some first)(ah:qY E cs.toList=some cap):bx P ⟨d,.makeFunc fn lu cs,ty,pos,af,gd⟩ E C (.func fn first.toArray cap.toArray):=λa aw w _=>by
 have fS:lu.map a.eval=first.toArray:=by
  apply Array.ext';simpa using aw.qY h1
 have jd:cs.map a.eval=cap.toArray:=by
  apply Array.ext';simpa using aw.qY ah
 simp[execOp,Instr.makeFunc,fS,jd]
section
variable {α β:Type} [DecidableEq α] {key:α->Value} {val:β->Value} {kind:TypeDesc}
def ng(key:α->Value)(val:β->Value)(w:World)(b:Nat)(m:List (α×β)):Prop:=
 ∃es clock,w.heap[b]?=some (.map es clock)/\es.toList.map (λe=>(e.key,e.val))=m.map λp=>(key p.1,val p.2)
theorem ng.ext{an:World}{b:Nat}{m:List (α×β)}(h:ng key val w b m)(hm:Ext w an):ng key val an b m:=by
 obtain⟨es,c,h1,ah⟩:=h;exact⟨es,c,hm.keep _ _ h1 (λx=>x),ah⟩
theorem ng.lt{b:Nat}{m:List (α×β)}(h:ng key val w b m):b<w.heap.size:=by
 obtain⟨es,c,h1,ah⟩:=h;exact(Array.getElem?_eq_some_iff.1 h1).1
def gv(m:List (α×β))(a:α):Option β:=(m.find? λp=>decide (p.1=a)).map Prod.snd
theorem TI(aT:∀a b:α,Instr.sameNow kind (key a) (key b)=some (decide (a=b)))(a:α):∀(es:List MapEntry) (m:List (α×β)) (i:Nat),es.map (λe=>(e.key,e.val))=m.map (λp=>(key p.1,val p.2)) ->
 ∃j,Instr.findNow kind (key a) es i=some ((gv m a).map λx=>(j,val x))
 | [],m,i,h=>by
  cases m with
  | nil=>exact⟨0,rfl⟩
  | cons _ _=>simp at h
 | e::es,m,i,h=>by
  cases m with
  | nil=>simp at h
  | cons p m =>
   simp only[List.map_cons,List.cons.injEq,Prod.mk.injEq] at h
   obtain⟨⟨h1,ah⟩,aB⟩:=h
   unfold Instr.findNow
   rw[h1,aT a p.1]
   by_cases hp:a=p.1
   . refine⟨i,?_⟩
     simp[hp,gv,ah]
   . obtain⟨j,bo⟩:=TI aT a es m (i+1) aB
     refine⟨j,?_⟩
     have AL:¬ (p.1=a):=λe=>hp e.symm
     simp only[decide_eq_false hp,bo,gv,List.find?_cons,decide_eq_false AL]
structure KeyOk(P:Program)(e2:TypeId)(key:α->Value):Prop where
 q4:∀(e:Bool) (a:α) (w:World),(Instr.checkKey e 10000 e2 (key a)).run P w=.ok () w
 same:∃kind,P.underlying e2=some kind/\∀a b:α,Instr.sameNow kind (key a) (key b)=some (decide (a=b))
theorem Me{e2:TypeId}(h:P.underlying e2=some .string):KeyOk P e2 aE:=⟨λe a w=>by
 unfold Instr.checkKey;simp[run_underlying h,aE],⟨_,h,λa b=>by
 simp only[aE,Instr.sameNow,Option.some.injEq]
 rw[beq_toListBytes,toList_mk,toList_mk]
 by_cases mG:a=b<;>simp[mG]⟩⟩
def fC(n:Int):Value:=.int .i64 n
theorem u4{e2:TypeId}(h:P.underlying e2=some (.int .i64)):KeyOk P e2 fC:=⟨λe a w=>by
 unfold Instr.checkKey;simp[run_underlying h,fC],⟨_,h,λa b=>by
 simp only[fC,Instr.sameNow,Option.some.injEq,if_true]
 by_cases mG:a=b<;>simp[mG]⟩⟩
theorem run_findKey{e2:TypeId}(hk:KeyOk P e2 key)(a:α){es:List MapEntry}{m:List (α×β)}(h:es.map (λe=>(e.key,e.val))=m.map (λp=>(key p.1,val p.2)))(w:World):
 ∃j,(Instr.findKey e2 (key a) es).run P w=.ok ((gv m a).map λx=>(j,val x)) w:=by
 obtain⟨kind,hu,aT⟩:=hk.same;obtain⟨j,bo⟩:=TI aT a es m 0 h;refine⟨j,?_⟩;unfold Instr.findKey;simp only[Sem.run_bind,run_underlying hu,Result.andThen_ok,bo,Sem.run_pure]
theorem yW{b:Nat}{es:Array MapEntry}{c:Nat}(h:w.heap[b]?=some (.map es c)):(getObj b).run P w=.ok (.map es c) w:=by
 simp[getObj,Sem.run,h]
theorem bx.TJ{t e2 jk:TypeId}{g:Bool}{n by_:Nat}{x y:Operand}{b:Nat}{m:List (α×β)}{a:α}{z:Value}(hk:KeyOk P e2 key)(a8:P.underlying t=some (.map e2 jk))(cO:∀w,(zeroValue jk).run P w=.ok z w)(ag:aO E x=some (.map (some b)))(aD:aO E y=some (key a))(hm:∀w,C w->ng key val w b m):
 bx P ⟨d,.lookup t x y true,ty,pos,af,gd⟩ E C (.tuple #[(match gv m a with|some u=>val u|none=>z),.bool (gv m a).isSome]):=λs aw w hC=>by
 obtain⟨es,c,h1,ah⟩:=hm w hC
 obtain⟨j,bo⟩:=run_findKey (P:=P) hk a ah w
 have aU:=yW (P:=P) h1
 cases ao:gv m a with
 | none =>
  rw[ao] at bo
  simp[execOp,aw.aO ag,aw.aO aD,Instr.lookup,run_underlying a8,aU,hk.q4,bo,cO]
 | some u =>
  rw[ao] at bo
  simp[execOp,aw.aO ag,aw.aO aD,Instr.lookup,run_underlying a8,aU,hk.q4,bo]
theorem bx.TK{t e2 jk:TypeId}{x y:Operand}{b:Nat}{m:List (α×β)}{a:α}{z:Value}(hk:KeyOk P e2 key)(a8:P.underlying t=some (.map e2 jk))(cO:∀w,(zeroValue jk).run P w=.ok z w)(ag:aO E x=some (.map (some b)))(aD:aO E y=some (key a))(hm:∀w,C w->ng key val w b m):
 bx P ⟨d,.lookup t x y false,ty,pos,af,gd⟩ E C (match gv m a with|some u=>val u|none=>z):=λs aw w hC=>by
 obtain⟨es,c,h1,ah⟩:=hm w hC
 obtain⟨j,bo⟩:=run_findKey (P:=P) hk a ah w
 have aU:=yW (P:=P) h1
 cases ao:gv m a with
 | none =>
  rw[ao] at bo
  simp[execOp,aw.aO ag,aw.aO aD,Instr.lookup,run_underlying a8,aU,hk.q4,bo,cO]
 | some u =>
  rw[ao] at bo
  simp[execOp,aw.aO ag,aw.aO aD,Instr.lookup,run_underlying a8,aU,hk.q4,bo]
theorem AM(w:World)(b:Nat)(o:Obj):Mod (b_ (b+1)) w { w with heap:=w.heap.setIfInBounds b o }:=
 ⟨rfl,rfl,rfl,by simp,λk Mf hk aN=>by
  have:b≠k:=λe=>aN (by unfold b_;omega)
  show(w.heap.setIfInBounds b _)[k]?=_
  rw[Array.getElem?_setIfInBounds_ne this];exact hk⟩
theorem gB.TL{t e2 jk:TypeId}{x y z:Operand}{b:Nat}{m:List (α×β)}{a:α}{u:β}(hk:KeyOk P e2 key)(a8:P.underlying t=some (.map e2 jk))(ag:aO E x=some (.map (some b)))(aD:aO E y=some (key a))(cO:aO E z=some (val u))(hm:ng key val w b m)(fW:gv m a=none)
 (eR:∀an,Mod (b_ (b+1)) w an->an.heap.size=w.heap.size->ng key val an b (m++[(a,u)])->K undef an):gB P ⟨d,.mapUpdate t x y z,ty,pos,af,gd⟩ E w K:=λs aw=>by
 obtain⟨es,c,h1,ah⟩:=hm
 obtain⟨j,bo⟩:=run_findKey (P:=P) hk a ah w
 rw[fW] at bo
 have aU:=yW (P:=P) h1
 have hL:=(Array.getElem?_eq_some_iff.1 h1).1
 have h:=eR _ (AM w b (.map (es.push { key:=key a,val:=val u,born:=c }) (c+1))) dg ⟨es.push { key:=key a,val:=val u,born:=c },c+1,by
  show(w.heap.setIfInBounds b _)[b]?=_
  simp[hL],by simp[ah]⟩
 simp[execOp,aw.aO ag,aw.aO aD,aw.aO cO,Instr.mapUpdate,run_underlying a8,aU,hk.q4,bo,setObj,Sem.run,h1,out]
 exact h
theorem gB.makeMap{t:TypeId}(eR:∀an b,Ext w an->b=w.heap.size->an.heap.size=w.heap.size+1->ng key val an b []->K (.map (some b)) an):gB P ⟨d,.makeMap t none,ty,pos,af,gd⟩ E w K:=λs aw=>by
 have h:=eR (w.alloc (.map #[] 0)) w.heap.size (Mod.alloc _ _ _) rfl dg ⟨#[],0,by
  show(w.heap.push _)[w.heap.size]?=_
  simp,by simp⟩
 simp[execOp,Instr.makeMap,newObj,Sem.run,out]
 exact h
end
end
def ki(w:World)(c0 ar b:Nat)(cs:List Value):Prop:=c0<=b/\b<ar/\Row w b 0 cs
theorem ki.ext{w an:World}{c0 ar b:Nat}{cs:List Value}(h:ki w c0 ar b cs)(hm:Ext w an):ki an c0 ar b cs:=⟨h.1,h.2.1,h.2.2.ext hm⟩
theorem ki.bF{w an:World}{c0 ar b g:Nat}{cs:List Value}(h:ki w c0 ar b cs)(hm:Mod (b_ g) w an)(aU:g<=c0\/ar<g):ki an c0 ar b cs:=⟨h.1,h.2.1,h.2.2.bF hm (by have:=h.1;have:=h.2.1;omega)⟩
theorem ki.cell{w:World}{c0 ar b:Nat}{cs:List Value}(h:ki w c0 ar b cs)(i:Nat)(v:Value)(cI:cs[i]?=some v):Row w b i [v]:=λj u hu=>by
 cases j with
 | zero =>
  simp only[List.getElem?_cons_zero,Option.some.injEq] at hu
  subst hu
  have:=h.2.2 i v cI
  simpa using this
 | succ j=>simp at hu
structure cK where
 a:Option Addr
 n:Nat
 c:Nat
def cK.val(h:cK):Value:=.slice h.a h.n h.c
def CA(g h:Nat):Nat->Prop:=λb=>b+1=g\/b+1=h
theorem Mod.TM{g g1 g2:Nat}{w0 w an:World}(h:Mod (CA g1 g2) w0 w)(k:Mod (b_ g) w an)(aU:g=0\/w0.heap.size<g\/g=g1\/g=g2):Mod (CA g1 g2) w0 an:=
 h.then k (λi ar bj=>by unfold b_ at ar;unfold CA;omega)
inductive AN where
 | int (k:IntKind)
 | str
 | bool
def Mg(P:Program)(f:Field):Option (Nat×AN):=
 match P.underlying f.type with
 | some (.int k) => if f.name ≠ "_" then some (f.offset, .int k) else none
 | some .string => if f.name ≠ "_" then some (f.offset, .str) else none
 | some .bool => if f.name ≠ "_" then some (f.offset, .bool) else none
 | _=>none
def nh:AN->Value->Value->Option Bool
 | .int k,.int j a,.int Se b=>if j=k/\Se=k then some (a==b) else none
 | .str,.string a,.string b=>some (a.toList==b.toList)
 | .bool,.bool a,.bool b=>some (a==b)
 | _,_,_=>none
def mo:List (Nat×AN)->Array Value->Array Value->Option Bool
 | [],_,_=>some true
 | (o,k)::r,xs,ys =>
  match xs[o]?,ys[o]? with
  | some x,some y=>match nh k x y with
   | some true=>mo r xs ys
   | some false=>some false
   | none=>none
  | _,_=>none
def yX(P:Program):List Field->Option (List (Nat×AN))
 | []=>some []
 | f::r=>match Mg P f,yX P r with
  | some k,some ks=>some (k::ks)
  | _,_=>none
theorem HX {P : Program} {xs ys : Array Value} {n : Nat} (w : World) : ∀ (lu : List Field) (ks : List (Nat × AN)) (q : Bool), yX P lu = some ks → mo ks xs ys = some q → (Op.eqFields (n + 1) xs ys lu).run P w = .ok q w
  | [], ks, q, h1, ah => by
    simp only [yX, Option.some.injEq] at h1
    subst h1
    simp only [mo, Option.some.injEq] at ah
    subst ah
    simp [Op.eqFields]
  | f :: lu, ks, q, h1, ah => by
    unfold yX at h1
    cases hk : Mg P f with
    | none => simp [hk] at h1
    | some k =>
      cases k' : yX P lu with
      | none => simp [hk, k'] at h1
      | some adM =>
        simp only [hk, k', Option.some.injEq] at h1
        subst h1
        obtain ⟨o, k⟩ := k
        unfold mo at ah
        have key : ∀ (d : TypeDesc), P.underlying f.type = some d → f.name ≠ "_" → f.offset = o → (∀ s, d ≠ .struct s) → (∀ a b, d ≠ .array a b) → (∀ x y r, nh k x y = some r → (Op.equalIn (n + 1) f.type x y).run P w = .ok r w) → (Op.eqFields (n + 1) xs ys (f :: lu)).run P w = .ok q w := by
          intro d hu aN eh aT aw he
          cases ag : xs[o]? with
          | none => simp [ag] at ah
          | some x =>
            cases aD : ys[o]? with
            | none => simp [ag, aD] at ah
            | some y =>
              simp only [ag, aD] at ah
              have TN : ∀ cs : Array Value, (part f.type cs f.offset).run P w = (match cs[f.offset]? with | some v => .ok v w | none => ((stuck "part: no such cell" : Sem Value)).run P w) := by
                intro cs
                unfold part isAgg
                simp only [Sem.run_bind, run_underlying hu, Result.andThen_ok]
                cases d <;> simp_all <;> (split <;> simp_all)
              have AO := TN xs; have HY := TN ys
              rw [eh] at AO HY
              rw [ag] at AO; rw [aD] at HY
              cases ao : nh k x y with
              | none => simp [ao] at ah
              | some r =>
                have a' := he x y r ao
                rw [ao] at ah
                have b' := fun h => HX (P := P) (xs := xs) (ys := ys) (n := n) w lu adM q k' h
                cases r with
                | false =>
                  simp only [Option.some.injEq] at ah
                  subst ah
                  simp [Op.eqFields, aN, eh, AO, HY, a']
                | true =>
                  have := b' ah
                  simp [Op.eqFields, aN, eh, AO, HY, a', this]
        unfold Mg at hk
        cases hu : P.underlying f.type with
        | none => simp [hu] at hk
        | some d =>
          cases d <;> simp only [hu, reduceCtorEq] at hk <;> (split at hk) <;> (try cases hk) <;> rename_i aN
          all_goals refine key _ hu aN rfl (by intro s h; cases h) (by intro a b h; cases h) fun x y r ao => ?_
          all_goals (cases x <;> simp only [nh, reduceCtorEq] at ao <;> cases y <;> simp only [nh, reduceCtorEq, Option.some.injEq] at ao)
          all_goals first
            | (split at ao
               · rename_i bo
                 obtain ⟨rfl, rfl⟩ := bo
                 simp only [Option.some.injEq] at ao
                 subst ao
                 exact run_equalIn_int w n _ _ _ _ _ hu
               · cases ao)
            | (subst ao; exact run_equalIn_bool' w n _ _ _ hu)
            | (subst ao; exact run_equalIn_string w n _ _ _ hu)
theorem CB{P:Program}{t:TypeId}{xs ys:Array Value}{ks:List (Nat×AN)}{q:Bool}(bB:P.underlying t=some (.struct (P.fieldsOf t)))(hp:P.stoodInHeld t=false)(hk:yX P (P.fieldsOf t).toList=some ks)(dH:mo ks xs ys=some q)(w:World):
 (Op.equalIn 10000 t (.agg xs) (.agg ys)).run P w=.ok q w:=
 (run_equalIn_agg w 9999 t xs ys bB hp).trans (HX (n:=9998) w _ ks q hk dH)
theorem Mh{p:Prop}[Decidable p](h:true=!decide p):¬ p:=by
 intro hp;simp[hp] at h
theorem Mi{p:Prop}[Decidable p](h:false=!decide p):p:=by
 by_cases hp:p
 . exact hp
 . simp[hp] at h
theorem tX{P:Program}{f:FuncId}{R:Ending->World->Prop}{n:Nat}{E:Env}{k:List Item}{w:World}{fn:Func}{t:Tmp}{ty:TypeId}{b off sz by_:Nat}{z cs:List Value}(bB:P.funcs[f]?=some fn)(oD:fn.results=#[.cell t ty])
 (cI:mE t E=some (ptr b off)) (a8:ey P ty=some (true,sz,by_,z)) (a':Row w b off cs) (aN:cs.length=sz) (fm:R (.returned (.agg cs.toArray)) w):hs P f R n E (.code .ret::k) w:=λa aw sl ab hk cs' =>
 ⟨_,w,{ sl.at a (.code .ret::k) with mode:=.returning },fm,.one step_ret,ab,B' aw bB ab hk (by
  have aU:a.tmps[t]?.getD undef=.pointer (some ⟨b,off,none⟩):=by have:=aw.has t _ cI;simpa[ptr] using this
  simp[results,oD,aU,asAddr,Sem.run_bind,Result.andThen,LG a8 a' aN])⟩
end Go.aH
