/-
  What the law WorkerScript needs, part 1 of 7: theory, and walks through the code. Names are said short.
-/
import Derived.WalkKit
import Derived.ProofKit
import Derived.Still
import Derived.KernelRfl
import Derived.Laws.Strings
import Derived.Laws.Small
import Derived.Laws.AppendOwn
import Derived.Lib.RuneCountTail
import Derived.Lib.Bytealg
import Derived.OpenShut
import Derived.SliceStrings
import Derived.Lib.SmallJoins
import Derived.Carry
import Derived.Laws.MakeOwn
import Derived.Laws.Pointers
import Derived.Laws.StructEq
import Derived.Lib.Join
import Derived.Room.Shelf.Join48
import Derived.Shelf.SlSortCmp.NoneTotal
import Derived.Shelf.SlicesE.Compact
import Derived.Laws.BytesArg
import Derived.Laws.IdiomStrings
import Derived.Laws.Cover4
import Derived.Laws.BitsAllLaws
import Derived.MapKept
import Derived.Deep.AppendSrc
import Derived.Test.YtjideiielmlccaaGreatProg
import Derived.Ground.NamesProg
set_option linter.unusedVariables false
set_option linter.unusedSimpArgs false
set_option maxRecDepth 20000
set_option maxHeartbeats 8000000
abbrev U(n:Int):Go.Value:=.int .i64 n
abbrev ad:Go.Value:=.int .i64 0
abbrev az:Nat->Prop:=λ_=>False
theorem cR{a b:Int}(h:a=b):Go.Value.int .i64 a=.int .i64 b:=congrArg _ h
theorem DC{p:Prop}(h:p:=by(intro z cO;simp at cO)):p:=h
section
variable {p:Prop}
theorem aS(h:p:=by kernel_rfl):p:=h
theorem bj(h:p:=by repeat(first|exact trivial|refine⟨rfl,?_⟩)):p:=h
theorem aa(h:p:=by omega):p:=h
theorem ev(h:p:=by first|(with_reducible exact h0)|(rw[<-h2];rfl)|(exfalso;omega)):p:=h
theorem uJ(h:p:=by first|(with_reducible exact ak.Et (by exact(a'.bad k5 (by first|exact ak.Sw k5|(with_reducible exact ak.Sx Z4)))))|(with_reducible exact(a'.bad k5 (by first|exact ak.Sw k5|(with_reducible exact ak.Sx Z4))))|(with_reducible exact(a'.fin k5).1.trans (ak.Eu (a'.fin k5).2))|(with_reducible exact(a'.fin k5).2)|(exfalso;omega)):p:=h
theorem bk(h:p:=by assumption):p:=h
theorem lQ(h:p:=by first|assumption|omega|(simp only[List.length_append,im,List.length_cons,List.length_nil];omega)):p:=h
theorem am(h:p:=by first|omega|(simp only[List.length_append,List.length_cons,List.length_nil];omega)|(exfalso;omega)):p:=h
theorem e_(h:p:=by first|omega|(exfalso;omega)):p:=h
theorem ap(h:p:=by first|(simp only[List.length_append,List.length_cons,List.length_nil];omega)|(exfalso;omega)):p:=h
theorem eS(h:p:=by unfold maxLen;omega):p:=h
theorem c6(h:p:=by kernel_rfl):p:=h
theorem b0(h:p:=by decide):p:=h
theorem vE(h:p:=by first|omega|(simp only[List.length_append];omega)|(simp only[List.length_append,List.length_cons,List.length_nil];omega)):p:=h
theorem pc(h:p:=by first|assumption|exact ak.cG.HA (by decide +kernel)):p:=h
theorem dh(h:p:=by simp):p:=h
theorem ux(h:p:=by simp only[List.length_append,List.length_cons];omega):p:=h
theorem dC(h:p:=by rfl):p:=h
theorem JR(h:p:=by first|exact .inl nS|exact .inr (.inl nS)|exact .inr (.inr ⟨by assumption,by first|assumption|exact List.eq_nil_of_length_eq_zero pM⟩)):p:=h
theorem Ju(h:p:=by first|(rw[ak.LL a8 (by simp[*]),List.length_append,<-ar];rfl)|(rw[ak.En a8 (by simp[*])];exact ar)|(exfalso;omega)):p:=h
theorem Qk(h:p:=by first|(rw[<-Z9.1];exact gZ)|(rw[T' nZ,show aI.drop bt=l4 (dF ax) (aI.drop k) from by rw[<-oI,List.drop_drop];congr 1;omega];simp only[List.length_append];omega)|(exfalso;omega)):p:=h
theorem GH(h:p:=by first|omega|(simp only[List.length_append,List.length_cons,List.length_nil];omega)|(simp;omega)):p:=h
theorem KO(h:p:=by first|exact a'.next k5 (ak.acu k5 (by with_reducible assumption) k5 k5) k5|(exfalso;omega)):p:=h
theorem JH(h:p:=by first|rw[oI];simp only[List.length_append,List.length_cons,List.length_nil];omega|(exfalso;omega)):p:=h
theorem sE(h:p:=by exact Nat.zero_le _):p:=h
theorem JT(h:p:=by first|omega|(simp only[List.length_append,List.length_cons,List.length_nil];omega)):p:=h
theorem Dw(h:p:=by first|omega|(simp only[List.length_take];omega)):p:=h
theorem Dr(h:p:=by first|omega|(simp only[List.length_nil];omega)):p:=h
theorem Db(h:p:=by first|(symm;assumption)|simp|(exfalso;omega)):p:=h
theorem Gw(h:p:=by first|assumption|(unfold b6;omega)|(unfold b6;decide)):p:=h
theorem sR(h:p:=by first|assumption):p:=h
theorem Ci(h:p:=by simp only[Bool.and_true,beq_iff_eq];omega):p:=h
theorem sC(h:p:=by first|omega|rfl):p:=h
theorem JG(h:p:=by first|rw[oI];simp only[List.length_append];omega|(exfalso;omega)):p:=h
theorem KS(h:p:=by first|(with_reducible exact(ak.T6 a8 bk).1)|(with_reducible exact(ak.T6 a8 bk).2)|(with_reducible exact(ak.T7 ay aT aa).1)|(with_reducible exact(ak.T7 ay aT aa).2)|(exfalso;omega)):p:=h
theorem JS(h:p:=by intro h;rcases h with h|h|⟨h1,ah⟩;omega;omega;first|exact absurd (show false=true from h1.symm.trans nS) b0|(have:=congrArg List.length ah;simp only[List.length_nil] at this;omega)):p:=h
theorem Jy(h:p:=by first|(with_reducible exact(ar.ret aa).1)|(with_reducible exact(ar.ret aa).2)|(with_reducible exact(ar.fin dL bk).1)|(with_reducible exact(ar.fin dL bk).2)|(exfalso;omega)):p:=h
theorem D4(h:p:=by first|exact Fi aa|exact NI (Pz fX BQ (Gh xf xf)) aa):p:=h
theorem x'(h:p:=by first|rfl|simp[aG.encI]):p:=h
theorem JI(h:p:=by first|simp only[List.length_append];omega|(exfalso;omega)):p:=h
theorem be(h:p:=by first|(simp only[List.length_set];omega)|(exfalso;omega)):p:=h
theorem Oz(h:p:=by first|omega|(simp only[List.length_append];omega)|(simp only[List.length_nil];omega)):p:=h
theorem bi(h:p:=by first|exact ak.Sn ar a8 c5 bk|(exfalso;omega)):p:=h
theorem LR(h:p:=by simp only[List.cons_append,List.nil_append,Cg,xq,List.length_cons];omega):p:=h
theorem Jv(h:p:=by first|simp only[ak.within, *];simp|(exfalso;omega)):p:=h
theorem Jx(h:p:=by first|simp only[ak.jf, *];rfl|(exfalso;omega)):p:=h
theorem Jr(h:p:=by first|simp only[ak.asked, *];simp|(exfalso;omega)):p:=h
theorem uU(h:p:=by simpa using ag):p:=h
theorem Jq(h:p:=by first|simp only[ak.word, *];simp|(exfalso;omega)):p:=h
theorem JE(h:p:=by rw[<-zh.1];simp only[List.length_nil];omega):p:=h
theorem BU(h:p:=by exact beq_self_eq_true _):p:=h
theorem Ql(h:p:=by first|exact aoj|(simp only[List.length_append];omega)|(exfalso;omega)):p:=h
theorem FI(h:p:=by first|assumption|(symm;assumption)):p:=h
theorem Q4(h:p:=by first|omega|(simp only[List.length_set];omega)|(exfalso;omega)):p:=h
theorem QZ(h:p:=by first|assumption|exact o5.AQ La _ _ _|exact o5.YS La _):p:=h
end
namespace Go.aG
open Go
abbrev Env:=List (Nat×Value)
def mG:Nat->Env->Option Value
 | _,[]=>none
 | i,p::r=>match Nat.beq i p.1 with
  | true=>some p.2
  | false=>mG i r
def aO(E:Env):Operand->Option Value
 | .tmp t=>mG t E
 | .const v=>some v
 | .global g=>some (.pointer (some ⟨g,0,none⟩))
 | .func f=>some (.func (.func f) #[] #[])
def Has(E:Env)(a:Act):Prop:=∀i v,mG i E=some v->a.tmps.getD i undef=v
structure Sat(n:Nat)(E:Env)(a:Act):Prop where
 size:a.tmps.size=n
 defers:a.defers=[]
 has:Has E a
def pu:Option Tmp->Value->Env->Env
 | some d,v,E=>(d,v)::E
 | none,_,E=>E
def ke(n:Nat):Option Tmp->Bool
 | some d=>Nat.blt d n
 | none=>true
theorem Sat.put{n:Nat}{E:Env}{a:Act}(h:Sat n E a){d:Option Tmp}(hd:ke n d=true)(v:Value):Sat n (pu d v E) (a.put d v):=by
 cases d with
 | none=>exact h
 | some d =>
  have aa3:d<n:=Nat.lt_of_succ_le (Nat.le_of_ble_eq_true hd);refine⟨by simp[Act.put,h.size],h.defers,λi u hu=>?_⟩;simp only[pu,mG] at hu
  cases ab:Nat.beq i d with
  | true =>
   have:i=d:=Nat.eq_of_beq_eq_true ab
   subst this;simp only[ab] at hu;simp only[Option.some.injEq] at hu;subst hu;simp[Act.put,h.size,aa3]
  | false =>
   simp only[ab] at hu;have dL:d≠i:=λe=>by subst e;simp[Nat.beq_refl] at ab
   have:=h.has i u hu;simpa[Act.put,Array.getElem?_setIfInBounds_ne dL] using this
theorem Has.aO{E:Env}{a:Act}(h:Has E a){x:Operand}{v:Value}(ag:aG.aO E x=some v):a.eval x=v:=by
 cases x with
 | tmp t=>exact h t v ag
 | const u=>simpa[aG.aO,Act.eval] using ag
 | global g=>simpa[aG.aO,Act.eval] using ag
 | func f=>simpa[aG.aO,Act.eval] using ag
def sub:Env->Env->Prop
 | [],_=>True
 | p::r,E=>mG p.1 E=some p.2/\sub r E
theorem Rl:∀{jd E:Env},sub jd E->∀i v,mG i jd=some v->mG i E=some v
 | [],_,_,_,_,h=>by simp[mG] at h
 | p::r,E,⟨h1,ah⟩,i,v,h=>by
  simp only[mG] at h
  cases ab:Nat.beq i p.1 with
  | true =>
   have:i=p.1:=Nat.eq_of_beq_eq_true ab
   simp only[ab] at h
   simp only[Option.some.injEq] at h
   rw[this,h1,h]
  | false =>
   simp only[ab] at h
   exact Rl ah i v h
theorem Sat.sub{n:Nat}{E jd:Env}{a:Act}(h:Sat n E a)(aT:aG.sub jd E):Sat n jd a:=
 ⟨h.size,h.defers,λi v cK=>h.has i v (Rl aT i v cK)⟩
structure Mod(M:Nat->Prop)(w ao:World):Prop where
 os:ao.os=w.os
 tape:ao.tape=w.tape
 output:ao.output=w.output
 size:w.heap.size<=ao.heap.size
 keep:∀(b:Nat) (o:Obj),w.heap[b]?=some o->¬ M b->ao.heap[b]?=some o
abbrev Ext(w ao:World):Prop:=Mod (λ_=>False) w ao
theorem Mod.refl(M:Nat->Prop)(w:World):Mod M w w:=⟨rfl,rfl,rfl,Nat.le_refl _,λ_ _ h _=>h⟩
theorem Mod.trans{M:Nat->Prop}{a b c:World}(h:Mod M a b)(k:Mod M b c):Mod M a c:=
 ⟨k.os.trans h.os,k.tape.trans h.tape,k.output.trans h.output,Nat.le_trans h.size k.size,λi o ar hm=>k.keep i o (h.keep i o ar hm) hm⟩
theorem Mod.weaken{M Rm:Nat->Prop}{a b:World}(h:Mod M a b)(hm:∀i,M i->i<a.heap.size->Rm i):Mod Rm a b:=
 ⟨h.os,h.tape,h.output,h.size,λi o ar aR=>h.keep i o ar (λag=>aR (hm i ag (Array.getElem?_eq_some_iff.1 ar).1))⟩
theorem Mod.then{M N:Nat->Prop}{a b c:World}(h:Mod M a b)(k:Mod N b c)(hq:∀i,N i->i<a.heap.size->M i):Mod M a c:=
 ⟨k.os.trans h.os,k.tape.trans h.tape,k.output.trans h.output,Nat.le_trans h.size k.size,
  λi o ar hm=>k.keep i o (h.keep i o ar hm) (λag=>hm (hq i ag (Array.getElem?_eq_some_iff.1 ar).1))⟩
theorem Mod.ext{M:Nat->Prop}{a b c:World}(h:Mod M a b)(k:Ext b c):Mod M a c:=h.then k (λ_ h _=>h.elim)
theorem Ext.mod{a b:World}(h:Ext a b)(M:Nat->Prop):Mod M a b:=h.weaken (λ_ h _=>h.elim)
theorem Mod.drew(M:Nat->Prop)(w:World):Mod M w w.drew:=⟨rfl,rfl,rfl,Nat.le_refl _,λ_ _ h _=>h⟩
theorem Mod.alloc(M:Nat->Prop)(w:World)(o:Obj):Mod M w (w.alloc o):=
 ⟨rfl,rfl,rfl,by simp,λb x h _=>by
  have bl:=(Array.getElem?_eq_some_iff.1 h).1
  show(w.heap.push o)[b]?=_
  rw[Array.getElem?_push,if_neg aa];exact h⟩
theorem Mod.below{w ao:World}(h:Ext w ao):Go.RowKit.Below w.heap.size w ao:=
 ⟨h.os,h.tape,h.output,h.size,λk hk=>by
  have e:w.heap[k]?=some w.heap[k]:=by simp[hk]
  rw[e];exact h.keep k _ e (λx=>x)⟩
theorem Mod.aa4{w ao:World}(h:Go.RowKit.Below w.heap.size w ao):Ext w ao:=
 ⟨h.os,h.tape,h.output,h.size,λb o ab _=>by rw[h.block b (Array.getElem?_eq_some_iff.1 ab).1];exact ab⟩
section
variable {P:Program} {f:FuncId} {R:Ending->World->Prop} {n:Nat}
def pX(P:Program)(f:FuncId)(R:Ending->World->Prop)(k:List Item)(a:Act)(w:World):Prop:=
 ∀b:Frame,b.fn=f->b.kind=.normal->∀cs,∃e ao yv,R e ao/\Comes P (lone (b.at a k) cs w) (lone yv cs ao) e/\yv.fn=f/\yv.leaving P ao e
theorem pX.head{k jy:List Item}{a:Act}{w:World}(aT:∀(b:Frame) cs,step P (lone (b.at a k) cs w)=.next (lone (b.at a jy) cs w))
 (h:pX P f R jy a w):pX P f R k a w:=λb bD hk cs =>
 let ⟨e,ao,yv,fo,al,r⟩:=h b bD hk cs
 ⟨e,ao,yv,fo,Comes.of_steps (.one (aT b cs)) al,r⟩
theorem Rn{c:Code}{k:List Item}{a:Act}{w:World}(h:c.wp P (λe a w=>e=.normal/\pX P f R k a w) a w):pX P f R (.code c::k) a w:=by
 intro b bD hk cs;obtain⟨e,qT,ao,⟨rfl,a'⟩,aa5⟩:=h b k cs;obtain⟨e,xi,yv,fo,al,r⟩:=a' b bD hk cs;exact⟨e,xi,yv,fo,Comes.of_steps aa5 al,r⟩
theorem aa6{fn:Func}{c:Code}{args:Array Value}{w:World}(bD:P.funcs[f]?=some fn)(ab:fn.body=some c)
 (h:pX P f R [.code c] { tmps:=args++Array.replicate (fn.ntmps-args.size) undef,defers:=[] } w):Calls P f args w R:=by
 intro cs;let b:Frame:={ (default:Frame) with fn:=f,kind:=.normal }
 have aa7:Frame.enter P f args .normal =
  b.at { tmps:=args++Array.replicate (fn.ntmps-args.size) undef,defers:=[] } [.code c]:=by
  simp[Frame.enter,Frame.at,bD,ab,b]
 rw[aa7];exact h b rfl rfl cs
def hx(P:Program)(f:FuncId)(R:Ending->World->Prop)(n:Nat)(E:Env)(k:List Item)(w:World):Prop:=∀a,Sat n E a->pX P f R k a w
theorem hx.sub{E jd:Env}{k:List Item}{w:World}(h:hx P f R n jd k w)(aT:aG.sub jd E):hx P f R n E k w:=λa ay=>h a (ay.sub aT)
theorem aa8{E:Env}{x y:Code}{k:List Item}{w:World}(h:hx P f R n E (.code x::.code y::k) w):hx P f R n E (.code (.seq x y)::k) w:=
 λa ay=>pX.head (λ_ _=>step_seq) (h a ay)
theorem aa9{E:Env}{k:List Item}{w:World}(h:hx P f R n E k w):hx P f R n E (.code .skip::k) w:=
 λa ay=>pX.head (λ_ _=>step_skip) (h a ay)
theorem aa_{E:Env}{id:Nat}{c:Code}{k:List Item}{w:World}(h:hx P f R n E (.code c::.inBlock id::k) w):hx P f R n E (.code (.block id c)::k) w:=
 λa ay=>pX.head (λ_ _=>step_block) (h a ay)
theorem aa'{E:Env}{id:Nat}{k:List Item}{w:World}(h:hx P f R n E k w):hx P f R n E (.inBlock id::k) w:=
 λa ay=>pX.head (λ_ _=>step_inBlock) (h a ay)
theorem aba{E:Env}{id:Nat}{k jy:List Item}{w:World}(hk:exitTo id k=some jy)(h:hx P f R n E jy w):hx P f R n E (.code (.exit id)::k) w:=
 λa ay=>pX.head (λ_ _=>step_exit hk) (h a ay)
theorem abb{E:Env}{c:Operand}{x y:Code}{k:List Item}{w:World}(al:aO E c=some (.bool true))(h:hx P f R n E (.code x::k) w):hx P f R n E (.code (.cond c x y)::k) w:=
 λa ay=>pX.head (λ_ _=>step_cond (t:=true) (ay.has.aO al)) (h a ay)
theorem abc{E:Env}{c:Operand}{x y:Code}{k:List Item}{w:World}(al:aO E c=some (.bool false))(h:hx P f R n E (.code y::k) w):hx P f R n E (.code (.cond c x y)::k) w:=
 λa ay=>pX.head (λ_ _=>step_cond (t:=false) (ay.has.aO al)) (h a ay)
theorem abd{E:Env}{c:Code}{k:List Item}{w:World}(h:hx P f R n E (.code c::.inLoop c::k) w):hx P f R n E (.inLoop c::k) w:=
 λa ay=>pX.head (λ_ _=>step_inLoop) (h a ay)
theorem dU{E:Env}{c:Code}{k:List Item}{w:World}(I:Nat->Env->World->Prop)
 (bK:∃m jd,I m jd w/\aG.sub jd E)
 (a':∀m E w,I m E w->(∀sU jd ao,I sU jd ao->sU<m->hx P f R n jd (.inLoop c::k) ao)->hx P f R n E (.code c::.inLoop c::k) w) :
 hx P f R n E (.code (.loop c)::k) w:=by
 have key:∀m E w,I m E w->hx P f R n E (.code c::.inLoop c::k) w:=by
  intro m
  induction m using Nat.strongRecOn with
  | _ m cc=>exact λE w mW=>a' m E w mW λsU jd ao abe hP=>abd (cc sU hP jd ao abe)
 obtain⟨m,jd,mW,aT⟩:=bK;exact λa ay=>pX.head (λ_ _=>step_loop) (key m jd w mW a (ay.sub aT))
theorem Lg{E:Env}{x:Item}{k:List Item}{w:World}(J:Env->World->Prop)
 (hk:∀E w,J E w->hx P f R n E k w) (ag:(∀E w,J E w->hx P f R n E k w)->hx P f R n E (x::k) w):hx P f R n E (x::k) w:=ag hk
theorem BY{n:Nat}{E:Env}{a:Act}{b:Frame}{k:List Item}{w:World}{fn:Func}{v:Value}(ay:Sat n E a)(bD:P.funcs[f]?=some fn)(ab:b.fn=f)(hk:b.kind=.normal)
 (a':(results fn a.tmps).run P w=.ok v w):Frame.leaving P { b.at a k with mode:=.returning } w (.returned v):=
 ⟨rfl,ay.defers,hk,fn,by show P.funcs[b.fn]?=_;rw[ab];exact bD,a'⟩
theorem aN{E:Env}{k:List Item}{w:World}{fn:Func}{t:Tmp}{v:Value}(bD:P.funcs[f]?=some fn)(ow:fn.results=#[.tmp t])
 (cK:mG t E=some v) (fo:R (.returned v) w):hx P f R n E (.code .ret::k) w:=λa ay b ab hk cs =>
 ⟨.returned v,w,{ b.at a (.code .ret::k) with mode:=.returning },fo,.one step_ret,ab,BY ay bD ab hk (by
  rw[results_tmp ow,ay.has t v cK])⟩
theorem cM{E:Env}{k:List Item}{w:World}{fn:Func}{t u:Tmp}{v x:Value}(bD:P.funcs[f]?=some fn)(ow:fn.results=#[.tmp t,.tmp u])
 (cK:mG t E=some v) (ag:mG u E=some x) (fo:R (.returned (.tuple #[v,x])) w):hx P f R n E (.code .ret::k) w:=λa ay b ab hk cs =>
 ⟨.returned _,w,{ b.at a (.code .ret::k) with mode:=.returning },fo,.one step_ret,ab,BY ay bD ab hk (by
  rw[results_tmp2 ow,ay.has t v cK,ay.has u x ag])⟩
theorem kp{E:Env}{w:World}{fn:Func}(bD:P.funcs[f]?=some fn)(ow:fn.results=#[])
 (fo:R (.returned (.tuple #[])) w):hx P f R n E [] w:=λa ay b ab hk cs =>
 ⟨.returned _,w,{ b.at a [] with mode:=.returning },fo,.one step_end,ab,BY ay bD ab hk (results_none ow _ _ _)⟩
theorem tD{E:Env}{k:List Item}{w:World}{fn:Func}(bD:P.funcs[f]?=some fn)(ow:fn.results=#[])
 (fo:R (.returned (.tuple #[])) w):hx P f R n E (.code .ret::k) w:=λa ay b ab hk cs =>
 ⟨.returned _,w,{ b.at a (.code .ret::k) with mode:=.returning },fo,.one step_ret,ab,BY ay bD ab hk (results_none ow _ _ _)⟩
end
section
variable {P:Program} {f:FuncId} {R:Ending->World->Prop} {n:Nat}
def want(n:Nat)(ops:Array Oper)(E:Env):Option (Nat×Bool)->Option Bool
 | none=>some true
 | some (j,b)=>match (ops[j]?).bind (·.dst) with
  | some d=>match mG d E with
   | some (.bool c)=>match Nat.blt d n with
    | true=>some (c==b)
    | false=>none
   | some (.tuple _)=>some false
   | _=>none
  | none=>none
theorem BZ{ops:Array Oper}{E:Env}{a:Act}(aT:Sat n E a){o:Oper}{b:Bool}(h:want n ops E o.guard=some b):
 Region.wanted o (yielded ops a.tmps)=b:=by
 unfold Region.wanted
 cases aV:o.guard with
 | none=>simpa[want,aV] using h
 | some abf =>
  obtain⟨j,c⟩:=abf;simp only[aV,want] at h
  cases hd:(ops[j]?).bind (·.dst) with
  | none=>simp[hd] at h
  | some d =>
   simp only[hd] at h
   cases bl:mG d E with
   | none=>simp[bl] at h
   | some v =>
    rw[bl] at h
    cases v<;>simp only[reduceCtorEq] at h
    case tuple vs =>
     have cK:=aT.has d _ bl
     have aE:yielded ops a.tmps j=none:=by
      unfold yielded
      rw[hd]
      simp only[Option.bind_some]
      cases a_:a.tmps[d]? with
      | none=>rfl
      | some u =>
       have:u=.tuple vs:=by
        rw[<-cK];simp[a_]
       rw[this]
     simp only[aE];simp only[Option.some.injEq] at h;subst h
     cases c<;>rfl
    rename_i x
    cases hP:Nat.blt d n with
    | false=>simp[hP] at h
    | true =>
     simp only[hP,Option.some.injEq] at h
     have abg:d<a.tmps.size:=by
      rw[aT.size];exact Nat.lt_of_succ_le (Nat.le_of_ble_eq_true hP)
     have cK:=aT.has d _ bl
     have aE:yielded ops a.tmps j=some x:=by
      unfold yielded
      rw[hd]
      simp only[Option.bind_some]
      have:a.tmps[d]?=some (.bool x):=by
       rw[<-cK];simp[abg]
      rw[this]
     simp only[aE];subst h
     cases x<;>cases c<;>rfl
def bA(P:Program)(o:Oper)(E:Env)(C:World->Prop)(v:Value):Prop:=
 ∀a,Has E a->∀w,C w->(execOp a.eval o).run P w=.ok (.value v) w
def out(P:Program)(K:Value->World->Prop):Result Next->Prop
 | .ok (.value v) ao=>K v ao
 | .ok .skip ao=>K undef ao
 | .ok (.enter f args) ao=>Calls P f args ao (λe xi=>∃v,e=.returned v/\K v xi)
 | .ok (.row row args) ao=>Rows P row args ao K
 | _=>False
theorem z8{K yw:Value->World->Prop}{r:Result Next}(h:∀v w,K v w->yw v w)(hF:out P K r):out P yw r:=by
 cases r with
 | ok x ao =>
  cases x<;>simp only[out] at hF ⊢<;>first
   | exact h _ _ hF
   | exact Calls.mono hF (λe xi ⟨v,he,hk⟩=>⟨v,he,h _ _ hk⟩)
   | exact Rows.mono hF (λv xi hk=>h _ _ hk)
 | halt x ao=>simp only[out] at hF
theorem Ro{K : Value -> World -> Prop}{r : Result Next}(hF : out P K r): ∃v w, K v w := by
  cases r with
  | ok x ao =>
   cases x <;> simp only[out] at hF <;> first
      | exact⟨_, _, hF⟩
      | (obtain⟨e, xi, yv, ⟨v, _, hk⟩, _⟩ := hF []
         exact⟨_, _, hk⟩)
      | (obtain⟨v, xi, hk, _⟩ := hF default []
         exact⟨_, _, hk⟩)
  | halt x ao => simp only[out] at hF
theorem Rp{o:Oper}{a:Act}{K:Value->World->Prop}{next:Act->World->Prop}{Q:Exit->Act->World->Prop}{r:Result Next}
 (h:∀v w,K v w->next (a.put o.dst v) w) (hF:out P K r):o.upon P a next Q r:=by
 cases r with
 | ok x ao =>
  cases x<;>simp only[out] at hF<;>simp only[Oper.upon]<;>first
   | exact h _ _ hF
   | exact Calls.mono hF (λe xi ⟨v,he,hk⟩=>by subst he;exact h _ _ hk)
   | exact Rows.mono hF (λv xi hk=>h _ _ hk)
 | halt x ao=>simp only[out] at hF
def gB(P:Program)(o:Oper)(E:Env)(w:World)(K:Value->World->Prop):Prop:=
 ∀a,Has E a->out P K ((execOp a.eval o).run P w)
theorem gB.mono{o:Oper}{E:Env}{w:World}{K yw:Value->World->Prop}(h:gB P o E w K)(hk:∀v ao,K v ao->yw v ao):gB P o E w yw:=
 λa ay=>z8 hk (h a ay)
def fK(P:Program)(f:FuncId)(R:Ending->World->Prop)(n:Nat)(ops:Array Oper)(l:List Oper)(E:Env)(k:List Item)(w:World):Prop:=
 ∀a,Sat n E a->wpList P ops (λe a w=>e=.normal/\pX P f R k a w) l a w
theorem abh{id:Nat}{l:List Oper}{E:Env}{k:List Item}{w:World}(h:fK P f R n l.toArray l E k w):hx P f R n E (.code (.region id l.toArray false)::k) w:=
 λa ay=>Rn (wp_region_lit (h a ay))
theorem fK.nil{ops:Array Oper}{E:Env}{k:List Item}{w:World}(h:hx P f R n E k w):fK P f R n ops [] E k w:=λa ay=>⟨rfl,h a ay⟩
theorem fK.q{ops:Array Oper}{o:Oper}{l:List Oper}{E:Env}{k:List Item}{w:World}{v:Value}(dM:bA P o E (λao=>ao=w) v)
 (hw:want n ops E o.guard=some true) (hd:ke n o.dst=true) (h:fK P f R n ops l (pu o.dst v E) k w):fK P f R n ops (o::l) E k w:=by
 intro a ay;refine wpList_step λK eU=>?_
 rw[BZ ay hw,if_pos rfl];unfold Oper.wp;rw[dM a ay.has w rfl];exact eU _ _ (h _ (ay.put hd v))
theorem fK.ew{ops:Array Oper}{o:Oper}{l:List Oper}{E:Env}{k:List Item}{w:World}
 (hw:want n ops E o.guard=some false) (hd:ke n o.dst=true) (h:fK P f R n ops l (pu o.dst undef E) k w):fK P f R n ops (o::l) E k w:=by
 intro a ay;refine wpList_step λK eU=>?_
 rw[BZ ay hw,if_neg dh];exact eU _ _ (h _ (ay.put hd undef))
theorem fK.act{ops:Array Oper}{o:Oper}{l:List Oper}{E:Env}{k:List Item}{w:World}
 (hw:want n ops E o.guard=some true) (hd:ke n o.dst=true) (ay:gB P o E w (λv ao=>fK P f R n ops l (pu o.dst v E) k ao)):fK P f R n ops (o::l) E k w:=by
 intro a Lh;refine wpList_step λK eU=>?_
 rw[BZ Lh hw,if_pos rfl];exact Rp (λv ao cK=>eU _ _ (cK _ (Lh.put hd v))) (ay a Lh.has)
end
end Go.aG
namespace Go.aG
open Go
section
variable {P:Program} {ops:Array Oper} {C:World->Prop} {A:Nat->Bool} {Z:Nat}
def vU(ops:Array Oper)(m:Array Nat):Bool:=
 (List.range ops.size).all λj=>match ops[j]? with
  | some o=>m.getD j 0==o.after.foldl (λs e=>if Region.binds .any e then s ||| 2 ^ e.on ||| m.getD e.on 0 else s) 0
  | none=>true
def tE(m:Array Nat)(dO:Array Bool):Prop:=∀j k,dO.getD j false=true->(m.getD j 0).testBit k=true->dO.getD k false=true
theorem Rq(m:Array Nat)(k:Nat):∀(l:List Edge) (s:Nat),(l.foldl (λs e=>if Region.binds .any e then s ||| 2 ^ e.on ||| m.getD e.on 0 else s) s).testBit k=true ->
 s.testBit k=true\/∃e∈l,Region.binds .any e=true/\(e.on=k\/(m.getD e.on 0).testBit k=true)
 | [],s,h=>.inl h
 | e::l,s,h=>by
  rcases Rq m k l _ h with h|⟨ny,Li,h⟩
  . by_cases ab:Region.binds .any e=true
    . simp only[ab,if_true,Nat.testBit_or,Bool.or_eq_true] at h
      rcases h with (h|h)|h
      . exact .inl h
      . refine .inr ⟨e,by simp,ab,.inl ?_⟩
        rw[Nat.testBit_two_pow] at h
        simpa using h
      . exact .inr ⟨e,by simp,ab,.inr h⟩
    . simp only[ab] at h
      exact .inl h
  . exact .inr ⟨ny,by simp[Li],h⟩
theorem B0{m:Array Nat}{dO:Array Bool}(hQ:vU ops m=true)(hd:tE m dO){j:Nat}(bo:j∈Region.ready .any ops dO){k:Nat}(hk:(m.getD j 0).testBit k=true):dO.getD k false=true:=by
 obtain⟨_,o,eh,fW⟩:=mem_ready.1 bo;have hP:j<ops.size:=(Array.getElem?_eq_some_iff.1 eh).1;have h1:=List.all_eq_true.1 hQ j (List.mem_range.2 hP);simp only[eh,beq_iff_eq] at h1;rw[h1,<-Array.foldl_toList] at hk;rcases Rq m k _ _ hk with h|⟨e,he,ab,h⟩
 . simp at h
 . have bl:=fW e (Array.mem_toList_iff.1 he) ab;rcases h with rfl|h
   . exact bl
   . exact hd _ _ bl h
theorem abi{dO:Array Bool}{i j:Nat}(h:(dO.setIfInBounds i true).getD j false=true):j=i\/dO.getD j false=true:=by
 by_cases mX:i=j
 . exact .inl mX.symm
 . rw[getD_set_ne false mX] at h;exact .inr h
theorem tE.set{m:Array Nat}{dO:Array Bool}(hQ:vU ops m=true)(hd:tE m dO){j:Nat}(bo:j∈Region.ready .any ops dO):tE m (dO.setIfInBounds j true):=by
 intro a k ay hk;rcases abi ay with rfl|ay
 . exact getD_set_true (B0 hQ hd bo hk)
 . exact getD_set_true (hd a k ay hk)
theorem Rr{dO:Array Bool}{i:Nat}(h:dO.getD i true=false):dO.getD i false=false:=by
 rcases Nat.lt_or_ge i dO.size with gL|gL
 . simpa[gL] using h
 . simp[Array.getElem?_eq_none gL] at h
def z_(ops:Array Oper)(m:Array Nat)(Z:Nat):Prop:=∀k,Z<ops.size->k<ops.size->k≠Z->(m.getD Z 0).testBit k=true
theorem yx{dO:Array Bool}{j:Nat}(bo:j∈Region.ready .any ops dO):j<ops.size:=by
 obtain⟨_,o,eh,_⟩:=mem_ready.1 bo;exact(Array.getElem?_eq_some_iff.1 eh).1
theorem Lj{dO:Array Bool}{k:Nat}(h:dO.getD k false=true):dO.getD k true=true:=by
 rcases Nat.lt_or_ge k dO.size with gL|gL
 . simpa[gL] using h
 . simp[Array.getElem?_eq_none gL] at h
theorem Lk{m:Array Nat}{dO:Array Bool}(hQ:vU ops m=true)(cO:z_ ops m Z)(hd:tE m dO)(bo:Z∈Region.ready .any ops dO){k:Nat}(hk:k<ops.size)(dL:k≠Z):dO.getD k true=true:=
 Lj (B0 hQ hd bo (cO k (yx bo) hk dL))
theorem Rs{m:Array Nat}{dO:Array Bool}(hQ:vU ops m=true)(cO:z_ ops m Z)(hd:tE m dO)(bo:Z∈Region.ready .any ops dO):Region.ready .any ops (dO.setIfInBounds Z true)=[]:=by
 cases a':Region.ready .any ops (dO.setIfInBounds Z true) with
 | nil=>rfl
 | cons a l =>
  exfalso;have ay:a∈Region.ready .any ops (dO.setIfInBounds Z true):=(by rw[a'];simp);have hP:=yx ay;have h1:=(mem_ready.1 ay).1;by_cases Ll:a=Z
  . subst Ll;have vV:=(mem_ready.1 bo).1
    have dN:a<dO.size:=by
     rcases Nat.lt_or_ge a dO.size with h|h
     . exact h
     . simp[Array.getElem?_eq_none h] at vV
    simp[dN] at h1
  . rw[getD_set_ne true (Ne.symm Ll)] at h1;rw[Lk hQ cO hd bo hP Ll] at h1;cases h1
def Rt(ops : Array Oper)(m : Array Nat)(A : Nat -> Bool)(dO : Array Bool)(i : Nat): Bool :=
  (List.range ops.size).all λj => j == i || dO.getD j true || (m.getD j 0).testBit i ||
    (match ops[i]?, ops[j]? with
     | some i7, some iw => i7.apart ops iw && !(A i && A j)
     | _, _ => true)
def B1(ops:Array Oper)(m:Array Nat)(A:Nat->Bool):Nat->Nat->Array Bool->Bool
 | 0,_,dO=>(Region.ready .any ops dO).isEmpty
 | fuel+1,k,dO=>(Region.ready .any ops dO).contains k && Rt ops m A dO k && B1 ops m A fuel (k+1) (dO.setIfInBounds k true)
def Lm(ops:Array Oper)(m:Array Nat)(Z:Nat):Bool:=Nat.ble ops.size Z || (List.range ops.size).all λk=>k==Z || (m.getD Z 0).testBit k
theorem abj{m:Array Nat}(h:Lm ops m Z=true):z_ ops m Z:=λk cO hk dL=>by
 unfold Lm at h
 rcases Bool.or_eq_true _ _▸h with h|h
 . have:=Nat.le_of_ble_eq_true h;omega
 . have:=List.all_eq_true.1 h k (List.mem_range.2 hk)
   simp only[Bool.or_eq_true,beq_iff_eq] at this
   exact this.resolve_left dL
def B2(ops:Array Oper)(A:Nat->Bool)(Z:Nat):Bool:=
 Lm ops (Region.before ops) Z && Region.noSelect ops && vU ops (Region.before ops) && B1 ops (Region.before ops) A ops.size 0 (Array.replicate ops.size false)
theorem abk{m:Array Nat}{dO:Array Bool}{i:Nat}{i7:Oper}(ar:ops[i]?=some i7)(h:Rt ops m A dO i=true):
 ∀j iw,ops[j]?=some iw->j≠i->dO.getD j true=false->(m.getD j 0).testBit i=false->i7.apart ops iw=true/\(A i && A j)=false:=by
 intro j iw bo dL bl hm;have h1:=List.all_eq_true.1 h j (List.mem_range.2 (Array.getElem?_eq_some_iff.1 bo).1);simp only[ar,bo,bl,hm,Bool.or_false,Bool.or_eq_true,beq_iff_eq,Bool.and_eq_true,Bool.not_eq_true'] at h1;rcases h1 with h1|h1
 . exact absurd h1 dL
 . exact h1
end
end Go.aG
namespace Go.pk
open Go Go.aG
def tF(N:Nat->Bool)(eG:World)(C:World->Prop)(i:Nat)(w:World):Prop:=if N i=true then w=eG else C w
def J(ops:Array Oper)(N:Nat->Bool)(eG:World)(C:World->Prop)(dO:Array Bool)(w:World):Prop:=C w/\(w=eG\/∀i,N i=true->i<ops.size->dO.getD i true=true)
def uP(ops:Array Oper)(m:Array Nat)(A N:Nat->Bool):Bool:=(List.range ops.size).all λj=>!A j || (List.range ops.size).all λi=>!N i || (!A i && (m.getD j 0).testBit i)
theorem Ru{ops:Array Oper}{m:Array Nat}{A N:Nat->Bool}(h:uP ops m A N=true){i j:Nat}(ar:i<ops.size)(bo:j<ops.size)(bf:A j=true)(hq:N i=true):A i=false/\(m.getD j 0).testBit i=true:=by
 have h1:=List.all_eq_true.1 h j (List.mem_range.2 bo);simp only[bf,Bool.not_true,Bool.false_or] at h1;have ah:=List.all_eq_true.1 h1 i (List.mem_range.2 ar);simp only[hq,Bool.not_true,Bool.false_or,Bool.and_eq_true,Bool.not_eq_true'] at ah;exact ah
theorem J.set{ops:Array Oper}{N:Nat->Bool}{eG w:World}{C:World->Prop}{dO:Array Bool}{k:Nat}(h:J ops N eG C dO w):J ops N eG C (dO.setIfInBounds k true) w:=by
 refine⟨h.1,h.2.imp id λay i hq ar=>?_⟩;have:=ay i hq ar;by_cases hk:k=i
 . subst hk;simp only[Array.getD_eq_getD_getElem?,Array.getElem?_setIfInBounds];split<;>rename_i bK<;>simp_all
   split<;>simp_all
 . rw[getD_set_ne true hk];exact this
section
variable {P:Program} {ops:Array Oper} {C:World->Prop} {A N:Nat->Bool} {Z:Nat} {eG:World}
def mY(P:Program)(ops:Array Oper)(C:World->Prop)(A N:Nat->Bool)(eG:World)(Z:Nat)(i:Nat)(K:Act->World->Prop)(a:Act)(w:World):Prop:=
 match ops[i]? with
 | none=>K a w
 | some o =>
  if Region.wanted o (yielded ops a.tmps)=true then
   if A i=true then out P (λv ao=>(i=Z\/C ao)/\K (a.put o.dst v) ao) ((execOp a.eval o).run P w)
   else ∃v,(∀ao,tF N eG C i ao->(execOp a.eval o).run P ao=.ok (.value v) ao)/\K (a.put o.dst v) w
  else K (a.put o.dst undef) w
def wd(P:Program)(ops:Array Oper)(C:World->Prop)(A N:Nat->Bool)(eG:World)(Z:Nat)(Q:Act->World->Prop):List Nat->Act->World->Prop
 | [],a,w=>Q a w
 | i::r,a,w=>mY P ops C A N eG Z i (wd P ops C A N eG Z Q r) a w
def tG(P:Program)(ops:Array Oper)(C:World->Prop)(A N:Nat->Bool)(eG:World)(Z:Nat)(Q:Act->World->Prop):Nat->Array Bool->Act->World->Prop
 | 0,dO,a,w=>Region.ready .any ops dO=[]/\Q a w
 | fuel+1,dO,a,w =>
  (Region.ready .any ops dO=[]->Q a w) /\
  ∀i∈Region.ready .any ops dO,mY P ops C A N eG Z i (tG P ops C A N eG Z Q fuel (dO.setIfInBounds i true)) a w
def vW(P:Program)(ops:Array Oper)(C:World->Prop)(A N:Nat->Bool)(eG:World)(i:Nat)(o:Oper)(v:Value)(a:Act):Prop:=
 (Region.wanted o (yielded ops a.tmps)=true/\A i=false/\∀ao,tF N eG C i ao->(execOp a.eval o).run P ao=.ok (.value v) ao) \/
 (Region.wanted o (yielded ops a.tmps)=false/\v=undef)
theorem vW.mY{i:Nat}{o:Oper}{v:Value}{a:Act}{w:World}{K:Act->World->Prop}(ar:ops[i]?=some o)(aE:vW P ops C A N eG i o v a)(h:K (a.put o.dst v) w):mY P ops C A N eG Z i K a w:=by
 unfold pk.mY;simp only[ar];rcases aE with ⟨hw,bf,cK⟩|⟨hw,rfl⟩
 . simp only[hw,bf,if_true,Bool.false_eq_true,if_false];exact⟨v,cK,h⟩
 . simp only[hw,Bool.false_eq_true,if_false];exact h
theorem vW.of_same{i:Nat}{o:Oper}{v:Value}{a qT:Act}(aE:vW P ops C A N eG i o v a)(he:execOp qT.eval o=execOp a.eval o)
 (hw:Region.wanted o (yielded ops qT.tmps)=Region.wanted o (yielded ops a.tmps)):vW P ops C A N eG i o v qT:=by
 unfold vW at *;rw[he,hw];exact aE
theorem abl{i j:Nat}{i7 iw:Oper}{v:Value}(bo:ops[j]?=some iw)(Ln:i7.apart ops iw=true)
 (G9:∀cs b,i7.op≠.select cs b) (Lo:∀cs b,iw.op≠.select cs b) {K:Act->World->Prop} {a:Act} {w:World}
 (aE:vW P ops C A N eG i i7 v a) (h:mY P ops C A N eG Z j K (a.put i7.dst v) w) :
 mY P ops C A N eG Z j (λqT ao=>vW P ops C A N eG i i7 v qT/\K (qT.put i7.dst v) ao) a w:=by
 obtain⟨h1,ah,aB⟩:=Oper.apart_spec Ln
 have keep:∀u,vW P ops C A N eG i i7 v (a.put iw.dst u):=λu =>
  aE.of_same (execOp_put i7 G9 a iw.dst u aB) (wanted_put i7 a iw.dst u aB)
 unfold mY at *;simp only[bo] at *;rw[wanted_put iw a i7.dst v h1,execOp_put iw Lo a i7.dst v h1] at h;split
 . rename_i hw;simp only[hw,if_true] at h;split
   . rename_i bf;simp only[bf,if_true] at h;exact z8 (λu ao hu=>⟨hu.1,keep u,by rw[<-Act.put_comm a v u ah];exact hu.2⟩) h
   . rename_i bf;simp only[bf] at h;obtain⟨u,hu,hk⟩:=h;exact⟨u,hu,keep u,by rw[<-Act.put_comm a v u ah];exact hk⟩
 . rename_i hw;simp only[hw] at h;exact⟨keep _,by rw[<-Act.put_comm a v undef ah];exact h⟩
theorem abm{i:Nat}{K yw:Act->World->Prop}{J':World->Prop}{a:Act}{w:World}(dL:i≠Z)(h:∀a w,J' w->K a w->yw a w)(hC:J' w)(abn:A i=true->∀ao,C ao->J' ao)(hF:mY P ops C A N eG Z i K a w):mY P ops C A N eG Z i yw a w:=by
 unfold mY at *;split
 . exact h _ _ hC (by simpa[*] using hF)
 . rename_i o eh;simp only[eh] at hF;split
   . rename_i hw;simp only[hw,if_true] at hF;split
     . rename_i bf;simp only[bf,if_true] at hF;exact z8 (λv ao cK=>⟨cK.1,h _ _ (abn bf _ (cK.1.resolve_left dL)) cK.2⟩) hF
     . rename_i bf;simp only[bf] at hF;obtain⟨v,h1,ah⟩:=hF;exact⟨v,h1,h _ _ hC ah⟩
   . rename_i hw;simp only[hw] at hF;exact h _ _ hC hF
theorem J.act{m:Array Nat}(hQ:vU ops m=true)(nz:uP ops m A N=true){dO:Array Bool}(hd:tE m dO){j:Nat}(bo:j∈Region.ready .any ops dO)(bf:A j=true){ao:World}(hC:C ao):J ops N eG C (dO.setIfInBounds j true) ao:=by
 refine⟨hC,.inr λi hq ar=>?_⟩;obtain⟨G_,ab⟩:=Ru nz ar (yx bo) bf hq;have:=Lj (B0 hQ hd bo ab);by_cases i_:j=i
 . subst i_;rw[bf] at G_;cases G_
 . rw[getD_set_ne true i_];exact this
theorem J.abo{dO:Array Bool}{w:World}(h:J ops N eG C dO w){i:Nat}(ar:i∈Region.ready .any ops dO):tF N eG C i w:=by
 unfold tF;split
 . rename_i hq;rcases h.2 with e|ay
   . exact e
   . have h1:=ay i hq (yx ar);rw[(mem_ready.1 ar).1] at h1;cases h1
 . exact h.1
theorem D_{m:Array Nat}(hQ:vU ops m=true)(nz:uP ops m A N=true)(cO:z_ ops m Z){Q:Act->World->Prop}{Rv:Exit->Act->World->Prop}(B3:∀a w,Q a w->Rv .normal a w):∀(fuel:Nat) (dO:Array Bool) (a:Act) (w:World),(J ops N eG C dO w\/Region.ready .any ops dO=[])->tE m dO ->
 tG P ops C A N eG Z Q fuel dO a w->wpAny P .any ops Rv fuel dO a w
 | 0,_,_,_,_,_,h=>⟨h.1,B3 _ _ h.2⟩
 | fuel+1,dO,a,w,hC,mZ,h=>⟨λbK=>B3 _ _ (h.1 bK),λi ar=>by
  have B4:J ops N eG C dO w:=by
   rcases hC with h|h
   . exact h
   . rw[h] at ar;cases ar
  have B5:=mZ.set hQ ar
  have ah:=h.2 i ar
  unfold mY at ah
  unfold wpOp
  split
  . rename_i eh
    simp only[eh] at ah
    exact D_ hQ nz cO B3 fuel _ _ _ (.inl B4.set) B5 ah
  . rename_i o eh
    simp only[eh] at ah
    split
    . rename_i hw
      simp only[hw,if_true] at ah
      refine .inl ?_
      split at ah
      . rename_i G_
        refine Rp (λv ao cK=>D_ hQ nz cO B3 fuel _ _ _ ?_ B5 cK.2) ah
        rcases cK.1 with e|e
        . subst e;exact .inr (Rs hQ cO mZ ar)
        . exact .inl (J.act hQ nz mZ ar G_ e)
      . obtain⟨v,aB,bH⟩:=ah
        unfold Oper.wp
        rw[aB w (B4.abo ar)]
        exact D_ hQ nz cO B3 fuel _ _ _ (.inl B4.set) B5 bH
    . rename_i hw
      simp only[hw] at ah
      exact D_ hQ nz cO B3 fuel _ _ _ (.inl B4.set) B5 ah⟩
theorem Rw{m:Array Nat}(hQ:vU ops m=true)(nz:uP ops m A N=true)(cO:z_ ops m Z){Q:Act->World->Prop}{i:Nat}{i7:Oper}{v:Value}(ar:ops[i]?=some i7)(D':∀(j:Nat) (o:Oper) cs b,ops[j]?=some o->o.op≠.select cs b):
 ∀(fuel:Nat) (dO:Array Bool) (a:Act) (w:World),J ops N eG C dO w->tE m dO ->
  (∀j iw,ops[j]?=some iw->j≠i->dO.getD j true=false->(m.getD j 0).testBit i=false->i7.apart ops iw=true) ->
  i∈Region.ready .any ops dO->vW P ops C A N eG i i7 v a ->
  tG P ops C A N eG Z Q fuel (dO.setIfInBounds i true) (a.put i7.dst v) w->tG P ops C A N eG Z Q (fuel+1) dO a w:=by
 intro fuel
 induction fuel with
 | zero =>
  intro dO a w hC _ _ a' aE H;refine⟨λh=>(by rw[h] at a';cases a'),λj bo=>?_⟩;by_cases i_:j=i
  . subst i_;exact aE.mY ar H
  . have:=ready_mono bo i_;rw[H.1] at this;cases this
 | succ fuel cc =>
  intro dO a w hC mZ Ea a' aE H;refine⟨λh=>(by rw[h] at a';cases a'),λj bo=>?_⟩;by_cases i_:j=i
  . subst i_;exact aE.mY ar H
  . have h1:=H.2 j (ready_mono bo i_);obtain⟨z',iw,xj,fW⟩:=mem_ready.1 bo
    have Lp:(m.getD j 0).testBit i=false:=by
     cases ab:(m.getD j 0).testBit i with
     | false=>rfl
     | true =>
      have ah:=B0 hQ mZ bo ab
      rw[Rr (mem_ready.1 a').1] at ah
      cases ah
    have ah:=abl xj (Ea j iw xj i_ z' Lp) (λcs b=>D' i i7 cs b ar) (λcs b=>D' j iw cs b xj) aE h1
    have G':∀k ok,ops[k]?=some ok->k≠i->(dO.setIfInBounds j true).getD k true=false ->
     (m.getD k 0).testBit i=false->i7.apart ops ok=true:=λk ok hk n1 Eb fX=>by
     refine Ea k ok hk n1 ?_ fX
     by_cases n2:j=k
     . subst n2;exact z'
     . rw[getD_set_ne true n2] at Eb;exact Eb
    have abp:j≠Z:=λe=>by
     subst e
     have c_:=Lk hQ cO mZ bo (yx a') (Ne.symm i_)
     rw[(mem_ready.1 a').1] at c_;cases c_
    refine abm (J':=J ops N eG C (dO.setIfInBounds j true)) abp (λqT ao B4 aB=>cc (dO.setIfInBounds j true) qT ao B4 (mZ.set hQ bo) G' (ready_mono a' (Ne.symm i_)) aB.1 ?_) hC.set (λHa ao al=>J.act hQ nz mZ bo Ha al) ah;rw[Array.setIfInBounds_comm _ _ i_];exact aB.2
theorem abq{m:Array Nat}(hQ:vU ops m=true)(nz:uP ops m A N=true)(cO:z_ ops m Z){Q:Act->World->Prop}{i:Nat}{i7:Oper}(ar:ops[i]?=some i7)(bf:A i=true)(D':∀(j:Nat) (o:Oper) cs b,ops[j]?=some o->o.op≠.select cs b):
 ∀(fuel:Nat) (dO:Array Bool) (a:Act) (w:World),J ops N eG C dO w->tE m dO ->
  (∀j iw,ops[j]?=some iw->j≠i->dO.getD j true=false->(m.getD j 0).testBit i=false->i7.apart ops iw=true/\A j=false) ->
  i∈Region.ready .any ops dO->Region.wanted i7 (yielded ops a.tmps)=true ->
  out P (λv ao=>(i=Z\/C ao)/\tG P ops C A N eG Z Q fuel (dO.setIfInBounds i true) (a.put i7.dst v) ao) ((execOp a.eval i7).run P w)->tG P ops C A N eG Z Q (fuel+1) dO a w:=by
 intro fuel
 induction fuel with
 | zero =>
  intro dO a w hC _ _ a' hw H;refine⟨λh=>(by rw[h] at a';cases a'),λj bo=>?_⟩;by_cases i_:j=i
  . subst i_;unfold mY;simp only[ar,hw,bf,if_true];exact H
  . obtain⟨v,ao,_,hk⟩:=Ro H;have:=ready_mono bo i_;rw[hk.1] at this;cases this
 | succ fuel cc =>
  intro dO a w hC mZ Ea a' hw H;refine⟨λh=>(by rw[h] at a';cases a'),λj bo=>?_⟩;by_cases i_:j=i
  . subst i_;unfold mY;simp only[ar,hw,bf,if_true];exact H
  . obtain⟨z',iw,xj,fW⟩:=mem_ready.1 bo
    have Lp:(m.getD j 0).testBit i=false:=by
     cases ab:(m.getD j 0).testBit i with
     | false=>rfl
     | true =>
      have ah:=B0 hQ mZ bo ab
      rw[Rr (mem_ready.1 a').1] at ah
      cases ah
    obtain⟨Ln,Ha⟩:=Ea j iw xj i_ z' Lp;obtain⟨Hb,Lq,Hc⟩:=Oper.apart_spec Ln
    have G':∀k ok,ops[k]?=some ok->k≠i->(dO.setIfInBounds j true).getD k true=false ->
     (m.getD k 0).testBit i=false->i7.apart ops ok=true/\A k=false:=λk ok hk n1 Eb fX=>by
     refine Ea k ok hk n1 ?_ fX
     by_cases n2:j=k
     . subst n2;exact z'
     . rw[getD_set_ne true n2] at Eb;exact Eb
    have G9:=λcs b=>D' i i7 cs b ar
    have Lo:=λcs b=>D' j iw cs b xj
    have abr:N j=false:=by
     cases hq:N j with
     | false=>rfl
     | true =>
      have e1:=Lj (B0 hQ mZ a' (Ru nz (yx bo) (yx a') bf hq).2)
      rw[z'] at e1;cases e1
    have il:∀ao,tF N eG C j ao↔C ao:=λao=>by unfold tF;rw[abr];simp
    -- arh 'Rx ari,arj 'Ry left
    have after:∀v ao,tG P ops C A N eG Z Q (fuel+1) (dO.setIfInBounds i true) (a.put i7.dst v) ao ->
     mY P ops C A N eG Z j (tG P ops C A N eG Z Q fuel ((dO.setIfInBounds i true).setIfInBounds j true)) (a.put i7.dst v) ao:=λv ao hk=>hk.2 j (ready_mono bo i_)
    unfold mY;simp only[xj,Ha,Bool.false_eq_true,if_false];by_cases Hd:Region.wanted iw (yielded ops a.tmps)=true
    . simp only[Hd,if_true]
      have get:∀v ao,tG P ops C A N eG Z Q (fuel+1) (dO.setIfInBounds i true) (a.put i7.dst v) ao ->
       ∃u,(∀ao,tF N eG C j ao->(execOp a.eval iw).run P ao=.ok (.value u) ao)/\tG P ops C A N eG Z Q fuel ((dO.setIfInBounds i true).setIfInBounds j true) ((a.put i7.dst v).put iw.dst u) ao:=λv ao hk=>by
       have h1:=after v ao hk
       unfold mY at h1
       simp only[xj,Ha,Bool.false_eq_true,if_false] at h1
       rw[wanted_put iw a i7.dst v Hb,Hd,if_pos rfl,execOp_put iw Lo a i7.dst v Hb] at h1
       exact h1
      have ark:i≠Z:=λe=>by
       subst e
       have c_:=Lk hQ cO mZ a' (yx bo) i_
       rw[z'] at c_;cases c_
      obtain⟨v0,w0,Rz,abt⟩:=Ro H;obtain⟨u,hu,_⟩:=get v0 w0 abt;refine⟨u,hu,cc (dO.setIfInBounds j true) (a.put iw.dst u) w hC.set (mZ.set hQ bo) G' (ready_mono a' (Ne.symm i_)) ?_ ?_⟩
      . rw[wanted_put i7 a iw.dst u Hc];exact hw
      . rw[execOp_put i7 G9 a iw.dst u Hc];refine z8 (λv ao ⟨al,hk⟩=>⟨al,?_⟩) H;obtain⟨Ec,He,rz⟩:=get v ao hk
        have e:Ec=u:=by
         have h1:=hu w ((il w).2 hC.1)
         rw[He w ((il w).2 hC.1)] at h1
         simpa using h1
        subst e;rw[Array.setIfInBounds_comm _ _ i_,<-Act.put_comm a v Ec Lq];exact rz
    . simp only[Hd,Bool.false_eq_true,if_false];refine cc (dO.setIfInBounds j true) (a.put iw.dst undef) w hC.set (mZ.set hQ bo) G' (ready_mono a' (Ne.symm i_)) ?_ ?_
      . rw[wanted_put i7 a iw.dst undef Hc];exact hw
      . rw[execOp_put i7 G9 a iw.dst undef Hc];refine z8 (λv ao ⟨al,hk⟩=>⟨al,?_⟩) H;have h1:=after v ao hk;unfold mY at h1;simp only[xj] at h1;rw[wanted_put iw a i7.dst v Hb,if_neg (by simpa using Hd)] at h1;rw[Array.setIfInBounds_comm _ _ i_,<-Act.put_comm a v undef Lq];exact h1
theorem RA{m:Array Nat}(hQ:vU ops m=true)(nz:uP ops m A N=true)(cO:z_ ops m Z){Q:Act->World->Prop}(aT:Region.noSelect ops=true):∀(fuel k:Nat) (dO:Array Bool) (a:Act) (w:World),(J ops N eG C dO w\/fuel=0)->tE m dO ->
 k+fuel=ops.size->B1 ops m A fuel k dO=true->wd P ops C A N eG Z Q (List.range' k fuel) a w->tG P ops C A N eG Z Q fuel dO a w
 | 0,_,_,_,_,_,_,_,fY,h=>⟨by simpa[B1] using fY,h⟩
 | fuel+1,k,dO,a,w,Rz,mZ,dN,fY,h=>by
  have hC:J ops N eG C dO w:=Rz.resolve_right aa
  have hP:k<ops.size:=by omega
  have bK:ops[k]?=some ops[k]:=by simp[hP]
  simp only[B1,Bool.and_eq_true,List.contains_iff_mem] at fY
  obtain⟨⟨a',bD⟩,Hf⟩:=fY
  have Hg:=abk bK bD
  rw[List.range'_succ] at h
  simp only[wd] at h
  have B5:=mZ.set hQ a'
  have Aa:k=Z->fuel=0:=λe=>by
   subst e
   have hd:=Rs hQ cO mZ a'
   cases fuel with
   | zero=>rfl
   | succ f =>
    simp only[B1,Bool.and_eq_true,List.contains_iff_mem] at Hf
    rw[hd] at Hf
    exact absurd Hf.1.1 dh
  have Lr:∀a w,(J ops N eG C (dO.setIfInBounds k true) w\/fuel=0)->wd P ops C A N eG Z Q (List.range' (k+1) fuel) a w->tG P ops C A N eG Z Q fuel (dO.setIfInBounds k true) a w:=λa w al hk =>
   RA hQ nz cO aT fuel (k+1) _ a w al B5 aa Hf hk
  unfold mY at h
  simp only[bK] at h
  by_cases hw:Region.wanted ops[k] (yielded ops a.tmps)=true
  . simp only[hw,if_true] at h
    by_cases bf:A k=true
    . simp only[bf,if_true] at h
      exact abq hQ nz cO bK bf (Region.noSelect_spec aT) fuel dO a w hC mZ (λj iw bo dL bl hm=>⟨(Hg j iw bo dL bl hm).1,by have:=(Hg j iw bo dL bl hm).2;simpa[bf] using this⟩) a' hw
       (z8 (λv ao cK=>⟨cK.1,Lr _ _ (cK.1.elim (λe=>.inr (Aa e)) (λe=>.inl (J.act hQ nz mZ a' bf e))) cK.2⟩) h)
    . simp only[bf] at h
      obtain⟨v,cK,hk⟩:=h
      exact Rw hQ nz cO bK (Region.noSelect_spec aT) fuel dO a w hC mZ (λj iw bo dL bl hm=>(Hg j iw bo dL bl hm).1) a' (.inl ⟨hw,by simpa using bf,cK⟩) (Lr _ _ (.inl hC.set) hk)
  . simp only[hw] at h
    exact Rw (A:=A) (v:=undef) hQ nz cO bK (Region.noSelect_spec aT) fuel dO a w hC mZ (λj iw bo dL bl hm=>(Hg j iw bo dL bl hm).1) a' (.inr ⟨by simpa using hw,rfl⟩) (Lr _ _ (.inl hC.set) h)
theorem abu{id:Nat}{Q:Exit->Act->World->Prop}{a:Act}{w:World}(hm:P.follows .mixedOrders=true)(fY:B2 ops A Z=true)(hq:uP ops (Region.before ops) A N=true)(hC:C w.drew)
 (h:wd P ops C A N w.drew Z (λqT ao=>Q .normal qT ao) (List.range' 0 ops.size) a w.drew):(Code.region id ops true).wp P Q a w:=by
 simp only[B2,Bool.and_eq_true] at fY;have cO:=abj fY.1.1.1
 have mZ:tE (Region.before ops) (Array.replicate ops.size false):=λj k bo=>by
  simp only[Array.getD_eq_getD_getElem?,Array.getElem?_replicate] at bo
  split at bo<;>simp at bo
 have RB:J ops N w.drew C (Array.replicate ops.size false) w.drew:=⟨hC,.inl rfl⟩;exact wp_region_any hm (D_ (C:=C) (A:=A) (Z:=Z) fY.1.2 hq cO (Q:=λqT ao=>Q .normal qT ao) (λ_ _ h=>h) _ _ _ _ (.inl RB) mZ (RA fY.1.2 hq cO fY.1.1.2 ops.size 0 _ a _ (.inl RB) mZ aa fY.2 h))
variable {f:FuncId} {R:Ending->World->Prop} {n:Nat}
def iJ(P:Program)(f:FuncId)(R:Ending->World->Prop)(n:Nat)(C:World->Prop)(A N:Nat->Bool)(eG:World)(Z:Nat)(ops:Array Oper)(l:List Nat)(E:Env)(k:List Item)(w:World):Prop:=
 ∀a,Sat n E a->wd P ops C A N eG Z (λa w=>pX P f R k a w) l a w
theorem RC(A N:Nat->Bool)(Z:Nat)(C:World->Prop){id:Nat}{ops:Array Oper}{E:Env}{k:List Item}{w:World}(hm:P.follows .mixedOrders=true)(fY:B2 ops A Z=true)(hq:uP ops (Region.before ops) A N=true)
 (h:C w.drew/\iJ P f R n C A N w.drew Z ops (List.range' 0 ops.size) E k w.drew):hx P f R n E (.code (.region id ops true)::k) w:=
 λa ay=>Rn (abu (A:=A) (N:=N) (C:=C) (Z:=Z) hm fY hq h.1 (by
  have:=h.2 a ay
  refine cast ?_ this
  congr
  funext qT ao
  simp))
theorem Ab(A N:Nat->Bool)(Z:Nat)(C:World->Prop){id:Nat}{ops:Array Oper}{E:Env}{k:List Item}{w:World}(hm:P.follows .mixedOrders=true){l:List Nat}
 (h:∀ai,Ext w ai->C ai/\iJ P f R n C A N ai Z ops l E k ai) (fY:B2 ops A Z=true:=by kernel_rfl) (hq:uP ops (Region.before ops) A N=true:=by kernel_rfl) (bl:List.range' 0 ops.size=l:=by exact rfl):hx P f R n E (.code (.region id ops true)::k) w:=
 RC A N Z C hm fY hq (bl▸h w.drew (Mod.drew _ _))
theorem iJ.nil{ops:Array Oper}{E:Env}{k:List Item}{w:World}(h:hx P f R n E k w):iJ P f R n C A N eG Z ops [] E k w:=λa ay=>h a ay
theorem iJ.q{ops:Array Oper}{o:Oper}{i:Nat}{l:List Nat}{E:Env}{k:List Item}{w:World}{v:Value}(eh:ops[i]?=some o)(bf:A i=false)(dM:bA P o E (tF N eG C i) v)
 (hw:want n ops E o.guard=some true) (hd:ke n o.dst=true) (h:iJ P f R n C A N eG Z ops l (pu o.dst v E) k w):iJ P f R n C A N eG Z ops (i::l) E k w:=by
 intro a ay;simp only[wd,mY,eh,BZ ay hw,bf,if_true,Bool.false_eq_true,if_false];exact⟨v,dM a ay.has,h _ (ay.put hd v)⟩
theorem iJ.abv {ops : Array Oper} {o : Oper} {i : Nat} {l : List Nat} {E : Env} {k : List Item} {w : World} {v : Value} (eh : ops[i]? = some o) (bf : A i = false) (hq : N i = true) (dM : bA P o E (fun ao => ao = eG) v)
    (hw : want n ops E o.guard = some true) (hd : ke n o.dst = true) (h : iJ P f R n C A N eG Z ops l (pu o.dst v E) k w) : iJ P f R n C A N eG Z ops (i :: l) E k w :=
  iJ.q eh bf (by have : tF N eG C i = fun ao => ao = eG := by funext ao; unfold tF; rw [if_pos hq]
                 rw [this]; exact dM) hw hd h
theorem iJ.RD {ops : Array Oper} {o : Oper} {i : Nat} {l : List Nat} {E : Env} {k : List Item} {w : World} {v : Value} (eh : ops[i]? = some o) (bf : A i = false) (hq : N i = false) (dM : bA P o E C v)
    (hw : want n ops E o.guard = some true) (hd : ke n o.dst = true) (h : iJ P f R n C A N eG Z ops l (pu o.dst v E) k w) : iJ P f R n C A N eG Z ops (i :: l) E k w :=
  iJ.q eh bf (by have : tF N eG C i = C := by funext ao; unfold tF; rw [if_neg (by rw [hq]; simp)]
                 rw [this]; exact dM) hw hd h
theorem iJ.ew{ops:Array Oper}{o:Oper}{i:Nat}{l:List Nat}{E:Env}{k:List Item}{w:World}(eh:ops[i]?=some o)
 (hw:want n ops E o.guard=some false) (hd:ke n o.dst=true) (h:iJ P f R n C A N eG Z ops l (pu o.dst undef E) k w):iJ P f R n C A N eG Z ops (i::l) E k w:=by
 intro a ay;simp only[wd,mY,eh,BZ ay hw,Bool.false_eq_true,if_false];exact h _ (ay.put hd undef)
theorem iJ.act{ops:Array Oper}{o:Oper}{i:Nat}{l:List Nat}{E:Env}{k:List Item}{w:World}(eh:ops[i]?=some o)(bf:A i=true)
 (hw:want n ops E o.guard=some true) (hd:ke n o.dst=true) (ay:gB P o E w (λv ao=>(i=Z\/C ao)/\iJ P f R n C A N eG Z ops l (pu o.dst v E) k ao)):iJ P f R n C A N eG Z ops (i::l) E k w:=by
 intro a aT;simp only[wd,mY,eh,BZ aT hw,bf,if_true];exact z8 (λv ao cK=>⟨cK.1,cK.2 _ (aT.put hd v)⟩) (ay a aT.has)
end
end Go.pk
namespace Go.aG
open Go
section
variable {P:Program} {C:World->Prop} {A:Nat->Bool} {Z:Nat} {f:FuncId} {R:Ending->World->Prop} {n:Nat}
def hR(P:Program)(f:FuncId)(R:Ending->World->Prop)(n:Nat)(C:World->Prop)(A:Nat->Bool)(Z:Nat)(ops:Array Oper)(l:List Nat)(E:Env)(k:List Item)(w:World):Prop:=
 ∀eG,pk.iJ P f R n C A (λ_=>false) eG Z ops l E k w
theorem abw(ops:Array Oper)(m:Array Nat)(A:Nat->Bool):pk.uP ops m A (λ_=>false)=true:=by
 unfold pk.uP;simp
theorem abx(A:Nat->Bool)(Z:Nat)(C:World->Prop){id:Nat}{ops:Array Oper}{E:Env}{k:List Item}{w:World}(hm:P.follows .mixedOrders=true)(fY:B2 ops A Z=true)
 (h:C w.drew/\hR P f R n C A Z ops (List.range' 0 ops.size) E k w.drew):hx P f R n E (.code (.region id ops true)::k) w:=
 pk.RC A (λ_=>false) Z C hm fY (abw _ _ _) ⟨h.1,h.2 _⟩
theorem hR.nil{ops:Array Oper}{E:Env}{k:List Item}{w:World}(h:hx P f R n E k w):hR P f R n C A Z ops [] E k w:=λeG=>pk.iJ.nil h
theorem hR.q{ops:Array Oper}{o:Oper}{i:Nat}{l:List Nat}{E:Env}{k:List Item}{w:World}{v:Value}(eh:ops[i]?=some o)(bf:A i=false)(dM:bA P o E C v)
 (hw:want n ops E o.guard=some true) (hd:ke n o.dst=true) (h:hR P f R n C A Z ops l (pu o.dst v E) k w):hR P f R n C A Z ops (i::l) E k w:=λeG=>pk.iJ.RD eh bf rfl dM hw hd (h eG)
theorem hR.ew{ops:Array Oper}{o:Oper}{i:Nat}{l:List Nat}{E:Env}{k:List Item}{w:World}(eh:ops[i]?=some o)
 (hw:want n ops E o.guard=some false) (hd:ke n o.dst=true) (h:hR P f R n C A Z ops l (pu o.dst undef E) k w):hR P f R n C A Z ops (i::l) E k w:=λeG=>pk.iJ.ew eh hw hd (h eG)
theorem hR.act{ops:Array Oper}{o:Oper}{i:Nat}{l:List Nat}{E:Env}{k:List Item}{w:World}(eh:ops[i]?=some o)(bf:A i=true)
 (hw:want n ops E o.guard=some true) (hd:ke n o.dst=true) (ay:gB P o E w (λv ao=>(i=Z\/C ao)/\hR P f R n C A Z ops l (pu o.dst v E) k ao)):hR P f R n C A Z ops (i::l) E k w:=λeG=>pk.iJ.act eh bf hw hd (ay.mono λ_ _ h=>⟨h.1,h.2 eG⟩)
end
end Go.aG
namespace Go.aG
open Go
abbrev aj:=List UInt8
def aD(s:aj):Value:=.string ⟨s.toArray⟩
def ptr(b off:Nat):Value:=.pointer (some ⟨b,off,none⟩)
theorem aby(s:ByteArray):Value.string s=aD s.data.toList:=by simp[aD]
def Row(w:World)(b off:Nat)(cs:List Value):Prop:=∀i v,cs[i]?=some v->w.cell? ⟨b,off+i,none⟩=some v
theorem abz{M:Nat->Prop}{w ao:World}{b o:Nat}{v:Value}(h:w.cell? ⟨b,o,none⟩=some v)(hm:Mod M w ao)(ab:¬ M b):ao.cell? ⟨b,o,none⟩=some v:=by
 unfold World.cell? at h ⊢;simp only[Option.isSome_none,Bool.false_eq_true,if_false] at h ⊢
 cases hF:w.heap[b]? with
 | none=>rw[hF] at h;cases h
 | some Ls =>
  rw[hm.keep b Ls hF ab];rw[hF] at h;exact h
theorem Row.keep{M:Nat->Prop}{w ao:World}{b off:Nat}{cs:List Value}(h:Row w b off cs)(hm:Mod M w ao)(ab:¬ M b):Row ao b off cs:=λi v cK=>abz (h i v cK) hm ab
theorem Row.ext{w ao:World}{b off:Nat}{cs:List Value}(h:Row w b off cs)(hm:Ext w ao):Row ao b off cs:=h.keep hm (λx=>x)
theorem Row.eA{w:World}{b:Nat}{cs:List Value}{e:TypeId}{abA:Nat×Nat}(h:w.heap[b]?=some (.cells cs.toArray e abA)):Row w b 0 cs:=λi v cK=>by
 simp[World.cell?,h,cK]
theorem Row.sub{w:World}{b off:Nat}{cs:List Value}(h:Row w b off cs)(i n:Nat)(aR:i+n<=cs.length):Row w b (off+i) ((cs.drop i).take n):=λj v cK=>by
 rw[List.getElem?_take] at cK
 split at cK
 . rw[List.getElem?_drop] at cK
   rw[Nat.add_assoc];exact h _ _ cK
 . cases cK
theorem Row.cell{w:World}{b off:Nat}{cs:List Value}(h:Row w b off cs)(i:Nat)(v:Value)(cK:cs[i]?=some v):w.cell? ⟨b,off+i,none⟩=some v:=h i v cK
theorem add_lit(b off i:Nat):(⟨b,off,none⟩:Addr).add i=⟨b,off+i,none⟩:=by unfold Addr.add;split<;>simp_all
def ey(P:Program)(t:TypeId):Option (Bool×Nat×Nat×List Value):=
 match P.info? t,P.underlying t with
 | some i,some d=>match i.zero with
  | some z=>some ((match d with | .struct _=>true | .array _ _=>true|_=>false),i.size,i.bytes,z.cells.toList)
  | none=>none
 | _,_=>none
section
variable {P:Program}
theorem B6{t:TypeId}{g:Bool}{n by_:Nat}{z:List Value}(h:ey P t=some (g,n,by_,z)):
 ∃i d jS,P.info? t=some i/\P.underlying t=some d/\i.zero=some jS/\i.size=n/\i.bytes=by_/\jS.cells.toList=z/\(match d with | .struct _=>true | .array _ _=>true|_=>false)=g:=by
 unfold ey at h
 cases ar:P.info? t with
 | none=>simp[ar] at h
 | some i =>
  cases hd:P.underlying t with
  | none=>simp[ar,hd] at h
  | some d =>
   cases cO:i.zero with
   | none=>simp[ar,hd,cO] at h
   | some jS =>
    simp only[ar,hd,cO,Option.some.injEq,Prod.mk.injEq] at h;exact⟨i,d,jS,rfl,rfl,cO,h.2.1,h.2.2.1,h.2.2.2,h.1⟩
theorem Lt{t:TypeId}{g:Bool}{n by_:Nat}{z:List Value}(h:ey P t=some (g,n,by_,z))(w:World):(isAgg t).run P w=.ok g w:=by
 obtain⟨i,d,jS,h1,ah,aB,bH,c_,e1,kz⟩:=B6 h;unfold isAgg;simp only[Sem.run_bind,run_underlying ah,Result.andThen_ok]
 cases d<;>simp_all
theorem run_sizeOf{t:TypeId}{g:Bool}{n by_:Nat}{z:List Value}(h:ey P t=some (g,n,by_,z))(w:World):(sizeOf t).run P w=.ok n w:=by
 obtain⟨i,d,jS,h1,ah,aB,bH,c_,e1,kz⟩:=B6 h;simp[sizeOf,typeInfo,h1,bH]
theorem RE{t:TypeId}{g:Bool}{n by_:Nat}{z:List Value}(h:ey P t=some (g,n,by_,z))(w:World):∃jS,jS.cells.toList=z/\(zeroValue t).run P w=.ok jS w:=by
 obtain⟨i,d,jS,h1,ah,aB,bH,c_,e1,kz⟩:=B6 h;exact⟨jS,e1,by simp[zeroValue,typeInfo,h1,aB]⟩
theorem Lu{t:TypeId}{n by_:Nat}{z:List Value}(h:ey P t=some (true,n,by_,z)){w:World}{b off:Nat}{cs:List Value}(a':Row w b off cs)(aR:cs.length=n):
 (loadVar t ⟨b,off,none⟩).run P w=.ok (.agg cs.toArray) w:=by
 unfold loadVar;have bl:=run_loadCells_list (P:=P) w ⟨b,off,none⟩ cs (λj v cK=>by rw[add_lit];exact a'.cell j v cK);rw[aR] at bl;simp[Lt h,run_sizeOf h,bl]
theorem abB{t:TypeId}{n by_:Nat}{z:List Value}(h:ey P t=some (false,n,by_,z)){w:World}{b off:Nat}{v:Value}(a':Row w b off [v]):
 (loadVar t ⟨b,off,none⟩).run P w=.ok v w:=by
 unfold loadVar;have:=a'.cell 0 v rfl;simp only[Nat.add_zero] at this;simp[Lt h,this]
variable {E:Env} {C:World->Prop} {d:Option Tmp} {ty:TypeId} {pos:String} {af:Array Edge} {gd:Option (Nat×Bool)}
theorem bA.move{x:Operand}{v:Value}(ag:aO E x=some v):bA P ⟨d,.move x,ty,pos,af,gd⟩ E C v:=λa ay w _=>by
 simp[execOp,ay.aO ag]
theorem bA.assign{x:Operand}{v:Value}(ag:aO E x=some v):bA P ⟨d,.assign x,ty,pos,af,gd⟩ E C v:=λa ay w _=>by
 simp[execOp,ay.aO ag]
theorem bA.pick{c x y:Operand}{t:Bool}{v:Value}(al:aO E c=some (.bool t))(ag:t=true->aO E x=some v)(aE:t=false->aO E y=some v):
 bA P ⟨d,.pick c x y,ty,pos,af,gd⟩ E C v:=λa ay w _=>by
 cases t with
 | true=>simp[execOp,ay.aO al,ay.aO (ag rfl),asBool]
 | false=>simp[execOp,ay.aO al,ay.aO (aE rfl),asBool]
theorem bA.abC{c x y:Operand}{v:Value}(al:aO E c=some (.bool true))(ag:aO E x=some v):
 bA P ⟨d,.pick c x y,ty,pos,af,gd⟩ E C v:=bA.pick al (λ_=>ag) (λh=>by cases h)
theorem bA.abD{c x y:Operand}{v:Value}(al:aO E c=some (.bool false))(ag:aO E y=some v):
 bA P ⟨d,.pick c x y,ty,pos,af,gd⟩ E C v:=bA.pick al (λh=>by cases h) (λ_=>ag)
section
variable {x y:Operand} {xt yt:TypeId} {k:IntKind} {p q:Int}
theorem uQ(op:BinOp)(t:TypeId)(x y:Operand)(w:World):(eqGuard op t x y (.int k p) (.int k q)).run P w=.ok () w:=by
 unfold eqGuard;split<;>simp
theorem Lv(op:BinOp)(t:TypeId)(x y:Operand)(w:World)(s jT:ByteArray):(eqGuard op t x y (.string s) (.string jT)).run P w=.ok () w:=by
 unfold eqGuard;split<;>simp
theorem bA.add(ag:aO E x=some (.int k p))(aE:aO E y=some (.int k q)):bA P ⟨d,.binOp .add xt x y yt,ty,pos,af,gd⟩ E C (.int k (k.wrap (p+q))):=λa ay w _=>by
 simp[execOp,ay.aO ag,ay.aO aE,uQ,Go.binOp,Op.intArith]
theorem bA.sub(ag:aO E x=some (.int k p))(aE:aO E y=some (.int k q)):bA P ⟨d,.binOp .sub xt x y yt,ty,pos,af,gd⟩ E C (.int k (k.wrap (p-q))):=λa ay w _=>by
 simp[execOp,ay.aO ag,ay.aO aE,uQ,Go.binOp,Op.intArith]
theorem bA.mul(ag:aO E x=some (.int k p))(aE:aO E y=some (.int k q)):bA P ⟨d,.binOp .mul xt x y yt,ty,pos,af,gd⟩ E C (.int k (k.wrap (p*q))):=λa ay w _=>by
 simp[execOp,ay.aO ag,ay.aO aE,uQ,Go.binOp,Op.intArith]
theorem bA.quo(ag:aO E x=some (.int k p))(aE:aO E y=some (.int k q))(bK:q≠0):bA P ⟨d,.binOp .quo xt x y yt,ty,pos,af,gd⟩ E C (.int k (k.wrap (p.tdiv q))):=λa ay w _=>by
 simp[execOp,ay.aO ag,ay.aO aE,uQ,Go.binOp,Op.intDiv,bK]
theorem bA.rem(ag:aO E x=some (.int k p))(aE:aO E y=some (.int k q))(bK:q≠0):bA P ⟨d,.binOp .rem xt x y yt,ty,pos,af,gd⟩ E C (.int k (p.tmod q)):=λa ay w _=>by
 simp[execOp,ay.aO ag,ay.aO aE,uQ,Go.binOp,Op.intDiv,bK]
theorem bA.cg(r:Int)(ag:aO E x=some (.int .i64 p))(aE:aO E y=some (.int .i64 q))(a':p+q=r/\-9223372036854775808<=r/\r<=9223372036854775807):bA P ⟨d,.binOp .add xt x y yt,ty,pos,af,gd⟩ E C (.int .i64 r):=by
 have h:=bA.add (P:=P) (C:=C) (d:=d) (xt:=xt) (yt:=yt) (ty:=ty) (pos:=pos) (af:=af) (gd:=gd) ag aE;rw[IntWalk.i64_in _ aa,a'.1] at h;exact h
theorem bA.h3(r:Int)(ag:aO E x=some (.int .i64 p))(aE:aO E y=some (.int .i64 q))(a':p-q=r/\-9223372036854775808<=r/\r<=9223372036854775807):bA P ⟨d,.binOp .sub xt x y yt,ty,pos,af,gd⟩ E C (.int .i64 r):=by
 have h:=bA.sub (P:=P) (C:=C) (d:=d) (xt:=xt) (yt:=yt) (ty:=ty) (pos:=pos) (af:=af) (gd:=gd) ag aE;rw[IntWalk.i64_in _ aa,a'.1] at h;exact h
theorem bA.RF(r:Int)(ag:aO E x=some (.int .i64 p))(aE:aO E y=some (.int .i64 q))(a':p*q=r/\-9223372036854775808<=r/\r<=9223372036854775807):bA P ⟨d,.binOp .mul xt x y yt,ty,pos,af,gd⟩ E C (.int .i64 r):=by
 have h:=bA.mul (P:=P) (C:=C) (d:=d) (xt:=xt) (yt:=yt) (ty:=ty) (pos:=pos) (af:=af) (gd:=gd) ag aE;rw[IntWalk.i64_in _ (by rw[a'.1];omega),a'.1] at h;exact h
theorem bA.sd(r:Int)(ag:aO E x=some (.int k p))(aE:aO E y=some (.int k q))(a':0<=p/\q≠0/\p % q=r):bA P ⟨d,.binOp .rem xt x y yt,ty,pos,af,gd⟩ E C (.int k r):=by
 have h:=bA.rem (P:=P) (C:=C) (d:=d) (xt:=xt) (yt:=yt) (ty:=ty) (pos:=pos) (af:=af) (gd:=gd) ag aE a'.2.1;rw[Int.tmod_eq_emod_of_nonneg a'.1,a'.2.2] at h;exact h
theorem bA.eq(ag:aO E x=some (.int k p))(aE:aO E y=some (.int k q)):bA P ⟨d,.binOp .eql xt x y yt,ty,pos,af,gd⟩ E C (.bool (p==q)):=λa ay w _=>by
 simp[execOp,ay.aO ag,ay.aO aE,uQ,Go.binOp,Op.intCmp]
theorem bA.ne(ag:aO E x=some (.int k p))(aE:aO E y=some (.int k q)):bA P ⟨d,.binOp .neq xt x y yt,ty,pos,af,gd⟩ E C (.bool (p != q)):=λa ay w _=>by
 simp[execOp,ay.aO ag,ay.aO aE,uQ,Go.binOp,Op.intCmp]
theorem bA.lt(ag:aO E x=some (.int k p))(aE:aO E y=some (.int k q)):bA P ⟨d,.binOp .lss xt x y yt,ty,pos,af,gd⟩ E C (.bool (decide (p<q))):=λa ay w _=>by
 simp[execOp,ay.aO ag,ay.aO aE,uQ,Go.binOp,Op.intCmp]
theorem bA.le(ag:aO E x=some (.int k p))(aE:aO E y=some (.int k q)):bA P ⟨d,.binOp .leq xt x y yt,ty,pos,af,gd⟩ E C (.bool (decide (p<=q))):=λa ay w _=>by
 simp[execOp,ay.aO ag,ay.aO aE,uQ,Go.binOp,Op.intCmp]
theorem bA.gt(ag:aO E x=some (.int k p))(aE:aO E y=some (.int k q)):bA P ⟨d,.binOp .gtr xt x y yt,ty,pos,af,gd⟩ E C (.bool (decide (q<p))):=λa ay w _=>by
 simp[execOp,ay.aO ag,ay.aO aE,uQ,Go.binOp,Op.intCmp]
theorem bA.ge(ag:aO E x=some (.int k p))(aE:aO E y=some (.int k q)):bA P ⟨d,.binOp .geq xt x y yt,ty,pos,af,gd⟩ E C (.bool (decide (q<=p))):=λa ay w _=>by
 simp[execOp,ay.aO ag,ay.aO aE,uQ,Go.binOp,Op.intCmp]
theorem toList_mk(s:aj):(⟨s.toArray⟩:ByteArray).toList=s:=by
 rw[ByteArray.toList_eq]
theorem bA.Ed{s t:aj}(ag:aO E x=some (aD s))(aE:aO E y=some (aD t)):bA P ⟨d,.binOp .eql xt x y yt,ty,pos,af,gd⟩ E C (.bool (s==t)):=λa ay w _=>by
 simp[execOp,ay.aO ag,ay.aO aE,aD,Lv,Go.binOp,Op.stringOp]
theorem bA.Hh{s t:aj}(ag:aO E x=some (aD s))(aE:aO E y=some (aD t)):bA P ⟨d,.binOp .neq xt x y yt,ty,pos,af,gd⟩ E C (.bool (!(s==t))):=λa ay w _=>by
 simp[execOp,ay.aO ag,ay.aO aE,aD,Lv,Go.binOp,Op.stringOp]
theorem bA.uR{s t:aj}(ag:aO E x=some (aD s))(aE:aO E y=some (aD t))(bl:s.length+t.length<=9223372036854775807):bA P ⟨d,.binOp .add xt x y yt,ty,pos,af,gd⟩ E C (aD (s++t)):=λa ay w _=>by
 have h1:¬ ((9223372036854775807:Int)<((s.length:Int)+(t.length:Int))):=by omega
 have ah:(⟨s.toArray⟩:ByteArray)++⟨t.toArray⟩=⟨(s++t).toArray⟩:=by
  apply ByteArray.ext
  simp
 have aB:(⟨s.toArray⟩:ByteArray).size=s.length:=by simp[ByteArray.size]
 have bH:(⟨t.toArray⟩:ByteArray).size=t.length:=by simp[ByteArray.size]
 simp[execOp,ay.aO ag,ay.aO aE,aD,Lv,Go.binOp,Op.stringOp,ah,aB,bH,IntKind.max,IntKind.signed,IntKind.bits,h1]
theorem RG(op:BinOp)(t:TypeId)(x y:Operand)(w:World)(a b:Bool):(eqGuard op t x y (.bool a) (.bool b)).run P w=.ok () w:=by
 unfold eqGuard;split<;>simp
theorem bA.RH{s t:Bool}(hu:P.underlying xt=some .bool)(ag:aO E x=some (.bool s))(aE:aO E y=some (.bool t)):bA P ⟨d,.binOp .eql xt x y yt,ty,pos,af,gd⟩ E C (.bool (s==t)):=λa ay w _=>by
 simp[execOp,ay.aO ag,ay.aO aE,RG,Go.binOp,run_equal_bool w xt s t hu]
theorem bA.Lw{s t:Bool}(hu:P.underlying xt=some .bool)(ag:aO E x=some (.bool s))(aE:aO E y=some (.bool t)):bA P ⟨d,.binOp .neq xt x y yt,ty,pos,af,gd⟩ E C (.bool (!(s==t))):=λa ay w _=>by
 simp[execOp,ay.aO ag,ay.aO aE,RG,Go.binOp,run_equal_bool w xt s t hu]
theorem bA.not{s:Bool}(ag:aO E x=some (.bool s)):bA P ⟨d,.unOp .not xt x,ty,pos,af,gd⟩ E C (.bool (!s)):=λa ay w _=>by
 simp[execOp,ay.aO ag,Op.unary]
end
theorem bA.extract{x:Operand}{vs:Array Value}{i:Nat}{v:Value}(ag:aO E x=some (.tuple vs))(cK:vs[i]?=some v):bA P ⟨d,.extract x i,ty,pos,af,gd⟩ E C v:=λa ay w _=>by
 simp[execOp,ay.aO ag,Instr.extract,cK]
def dJ(P:Program)(t:TypeId)(i:Nat):Option Nat:=
 match P.underlying t with
 | some (.struct lr)=>match lr[i]? with
  | some f=>match P.info? f.type with
   | some j=>match Nat.beq j.size 0 with
    | true=>none
    | false=>some f.offset
   | none=>none
  | none=>none
 | _=>none
theorem bA.fieldAddr{t:TypeId}{x:Operand}{i b off o:Nat}(bD:dJ P t i=some o)(ag:aO E x=some (ptr b off)):
 bA P ⟨d,.fieldAddr t x i,ty,pos,af,gd⟩ E C (ptr b (off+o)):=λa ay w _=>by
 unfold dJ at bD
 split at bD
 . rename_i lr hu
   split at bD
   . rename_i f qt
     split at bD
     . rename_i j bo
       split at bD
       . cases bD
       . rename_i ab
         simp only[Option.some.injEq] at bD
         have bK:¬ j.size=0:=λe=>by rw[e] at ab;cases ab
         simp[execOp,ay.aO ag,ptr,Instr.fieldAt,Instr.sureAddr,run_underlying hu,qt,fieldPlace,sizeOf,typeInfo,bo,bK,add_lit,bD]
     . cases bD
   . cases bD
 . cases bD
theorem bA.load{t:TypeId}{x:Operand}{b off:Nat}{v:Value}(ag:aO E x=some (ptr b off))(bl:∀w,C w->(loadVar t ⟨b,off,none⟩).run P w=.ok v w):
 bA P ⟨d,.load t x,ty,pos,af,gd⟩ E C v:=λa ay w hC=>by
 simp[execOp,ay.aO ag,ptr,Instr.loadAt,Instr.sureAddr,bl w hC]
theorem bA.ca{t:TypeId}{x:Operand}{b off n by_:Nat}{z:List Value}{v:Value}(a_:ey P t=some (false,n,by_,z))(ag:aO E x=some (ptr b off))(a':∀w,C w->Row w b off [v]):
 bA P ⟨d,.load t x,ty,pos,af,gd⟩ E C v:=bA.load ag λw hw=>abB a_ (a' w hw)
theorem bA.cB{t:TypeId}{x:Operand}{b off n by_:Nat}{z cs:List Value}(a_:ey P t=some (true,n,by_,z))(ag:aO E x=some (ptr b off))(a':∀w,C w->Row w b off cs)(aR:cs.length=n):
 bA P ⟨d,.load t x,ty,pos,af,gd⟩ E C (.agg cs.toArray):=bA.load ag λw hw=>Lu a_ (a' w hw) aR
end
section
variable {α:Type}
def aq(enc:α->List Value)(w:World)(F:Nat->Prop)(v:Value)(l:List α):Prop:=
 ∃a cap,v=.slice a l.length cap/\l.length<=cap/\cap<=maxLen/\(l=[]\/∃b off,a=some ⟨b,off,none⟩/\F b/\Row w b off (l.flatMap enc))
variable {enc:α->List Value} {w:World} {F:Nat->Prop} {v:Value} {l:List α}
theorem aq.nil:aq enc w F (.slice none 0 0) []:=⟨none,0,rfl,Nat.le_refl _,Nat.zero_le _,.inl rfl⟩
theorem aq.keep{M:Nat->Prop}{ao:World}(h:aq enc w F v l)(hm:Mod M w ao)(bs:∀b,F b->¬ M b):aq enc ao F v l:=by
 obtain⟨a,cap,h1,ah,aB,bH⟩:=h;refine⟨a,cap,h1,ah,aB,?_⟩;rcases bH with bH|⟨b,off,c_,e1,kz⟩
 . exact .inl bH
 . exact .inr ⟨b,off,c_,e1,kz.keep hm (bs b e1)⟩
theorem aq.ext{ao:World}(h:aq enc w F v l)(hm:Ext w ao):aq enc ao F v l:=h.keep hm (λ_ _ h=>h)
theorem aq.mono{F':Nat->Prop}(h:aq enc w F v l)(bs:∀b,F b->F' b):aq enc w F' v l:=by
 obtain⟨a,cap,h1,ah,aB,bH⟩:=h;refine⟨a,cap,h1,ah,aB,?_⟩;rcases bH with bH|⟨b,off,c_,e1,kz⟩
 . exact .inl bH
 . exact .inr ⟨b,off,c_,bs b e1,kz⟩
theorem aq.le(h:aq enc w F v l):l.length<=9223372036854775807:=by
 obtain⟨a,cap,h1,ah,aB,bH⟩:=h;exact Nat.le_trans ah aB
theorem aq.shape(h:aq enc w F v l):∃a cap,v=.slice a l.length cap:=by
 obtain⟨a,cap,h1,ah,aB,bH⟩:=h;exact⟨a,cap,h1⟩
theorem Hi{sz:Nat}(dN:∀x,(enc x).length=sz):∀(l:List α) (i:Nat) (h:i<l.length),((l.flatMap enc).drop (i*sz)).take sz=enc l[i]/\i*sz+sz<=(l.flatMap enc).length
 | x::l,0,_=>by
  refine⟨?_,by simp[List.flatMap_cons,dN]⟩
  simp only[Nat.zero_mul,List.drop_zero,List.flatMap_cons,List.getElem_cons_zero]
  rw[<-dN x,List.take_left']
  rfl
 | x::l,i+1,h=>by
  have cc:=Hi dN l i (by simpa using h)
  simp only[List.flatMap_cons,List.getElem_cons_succ]
  have e:(i+1)*sz=(enc x).length+i*sz:=by rw[dN,Nat.add_mul];omega
  rw[e,List.drop_append,List.drop_of_length_le aa,Nat.add_sub_cancel_left,List.nil_append]
  refine⟨cc.1,?_⟩
  rw[List.length_append];have:=cc.2;omega
theorem rA{sz:Nat}(dN:∀x,(enc x).length=sz)(l:List α):(l.flatMap enc).length=l.length*sz:=by
 induction l with
 | nil=>simp
 | cons x l cc=>simp only[List.flatMap_cons,List.length_append,dN,cc,List.length_cons,Nat.add_mul];omega
theorem abE{sz:Nat}(dN:∀x,(enc x).length=sz)(l:List α)(i:Nat):(l.flatMap enc).drop (i*sz)=(l.drop i).flatMap enc:=by
 induction i generalizing l with
 | zero=>simp
 | succ i cc =>
  cases l with
  | nil=>simp
  | cons x l =>
   have e:(i+1)*sz=(enc x).length+i*sz:=(by rw[dN,Nat.add_mul];omega);simp only[List.flatMap_cons,List.drop_succ_cons];rw[e,List.drop_append,List.drop_of_length_le aa,Nat.add_sub_cancel_left,List.nil_append,cc]
theorem RI{sz:Nat}(dN:∀x,(enc x).length=sz)(l:List α)(i:Nat):(l.flatMap enc).take (i*sz)=(l.take i).flatMap enc:=by
 induction i generalizing l with
 | zero=>simp
 | succ i cc =>
  cases l with
  | nil=>simp
  | cons x l =>
   have e:(i+1)*sz=(enc x).length+i*sz:=(by rw[dN,Nat.add_mul];omega);simp only[List.flatMap_cons,List.take_succ_cons];rw[e,List.take_append,List.take_of_length_le aa,Nat.add_sub_cancel_left,cc]
section
variable {P:Program} {t e:TypeId}
theorem aq.at{sz by_:Nat}{g:Bool}{z:List Value}(h:aq enc w F v l)(a_:P.underlying t=some (.slice e))(he:ey P e=some (g,sz,by_,z))(dN:∀x,(enc x).length=sz){k:IntKind}{n:Int}(i:Nat)(aR:n=(i:Int))(ar:i<l.length):
 ∃b off,(∀w,(Instr.indexAt t v (.int k n)).run P w=.ok (ptr b off) w)/\F b/\Row w b off (enc l[i]):=by
 obtain⟨a,cap,rfl,ah,aB,bH⟩:=h;rcases bH with rfl|⟨b,off,rfl,c_,e1⟩
 . simp at ar
 . refine⟨b,off+i*sz,λw=>?_,c_,?_⟩
   . have:(0:Int)<=n/\n<(l.length:Int):=by omega
     have e:n.toNat=i:=(by omega);simp[Instr.indexAt,asIntOf,run_underlying a_,this,run_sizeOf he,add_lit,ptr,e]
   . have bD:=Hi dN l i ar;have:=e1.sub (i*sz) sz bD.2;rw[bD.1] at this;exact this
end
variable {P:Program} {E:Env} {C:World->Prop} {d:Option Tmp} {ty:TypeId} {pos:String} {af:Array Edge} {gd:Option (Nat×Bool)}
theorem bA.indexAddr{t:TypeId}{x y:Operand}{v u p:Value}(ag:aO E x=some v)(aE:aO E y=some u)(h:∀w,(Instr.indexAt t v u).run P w=.ok p w):bA P ⟨d,.indexAddr t x y,ty,pos,af,gd⟩ E C p:=λa ay w _=>by
 simp[execOp,ay.aO ag,ay.aO aE,h w]
theorem bA.len{t e:TypeId}{x:Operand}{a:Option Addr}{n c:Nat}(hu:P.underlying t=some (.slice e))(ag:aO E x=some (.slice a n c)):bA P ⟨d,.call { callee:=.builtin .len,args:=#[x],argTypes:=#[t] },ty,pos,af,gd⟩ E C (.int .i64 n):=λs ay w _=>by
 simp[execOp,resolve,invoke,builtin,ay.aO ag,Builtin.len_,goInt,run_underlying hu]
theorem bA.ct{t e:TypeId}{x:Operand}(hu:P.underlying t=some (.slice e))(h:aq enc w F v l)(ag:aO E x=some v):bA P ⟨d,.call { callee:=.builtin .len,args:=#[x],argTypes:=#[t] },ty,pos,af,gd⟩ E C (.int .i64 l.length):=by
 obtain⟨a,c,rfl⟩:=h.shape;exact bA.len hu ag
theorem bA.ox{t:TypeId}{x:Operand}{s:aj}(hu:P.underlying t=some .string)(ag:aO E x=some (aD s)):bA P ⟨d,.call { callee:=.builtin .len,args:=#[x],argTypes:=#[t] },ty,pos,af,gd⟩ E C (.int .i64 s.length):=λa ay w _=>by
 have aB:(⟨s.toArray⟩:ByteArray).size=s.length:=by simp[ByteArray.size]
 simp[execOp,resolve,invoke,builtin,ay.aO ag,aD,Builtin.len_,goInt,run_underlying hu,aB]
theorem Lx(k:IntKind)(p q:Int)(w:World):(Builtin.min2 (.int k p) (.int k q)).run P w=.ok (.int k (min p q)) w:=by
 simp only[Builtin.min2,Sem.run_pure];rw[Int.min_def];split<;>split<;>first|rfl|omega
theorem abF(k:IntKind)(p q:Int)(w:World):(Builtin.max2 (.int k p) (.int k q)).run P w=.ok (.int k (max p q)) w:=by
 simp only[Builtin.max2,Sem.run_pure];rw[Int.max_def];split<;>split<;>first|rfl|(congr 2;omega)|omega
theorem bA.min{x y:Operand}{k:IntKind}{p q:Int}{mm:Array TypeId}(ag:aO E x=some (.int k p))(aE:aO E y=some (.int k q)):bA P ⟨d,.call { callee:=.builtin .min,args:=#[x,y],argTypes:=mm },ty,pos,af,gd⟩ E C (.int k (Min.min p q)):=λa ay w _=>by
 simp[execOp,resolve,invoke,builtin,ay.aO ag,ay.aO aE,Builtin.min_,Lx]
theorem bA.max{x y:Operand}{k:IntKind}{p q:Int}{mm:Array TypeId}(ag:aO E x=some (.int k p))(aE:aO E y=some (.int k q)):bA P ⟨d,.call { callee:=.builtin .max,args:=#[x,y],argTypes:=mm },ty,pos,af,gd⟩ E C (.int k (Max.max p q)):=λa ay w _=>by
 simp[execOp,resolve,invoke,builtin,ay.aO ag,ay.aO aE,Builtin.max_,abF]
theorem bA.RJ{x y z:Operand}{k:IntKind}{p q r:Int}{mm:Array TypeId}(ag:aO E x=some (.int k p))(aE:aO E y=some (.int k q))(cO:aO E z=some (.int k r)):bA P ⟨d,.call { callee:=.builtin .min,args:=#[x,y,z],argTypes:=mm },ty,pos,af,gd⟩ E C (.int k (Min.min (Min.min p q) r)):=λa ay w _=>by
 simp[execOp,resolve,invoke,builtin,ay.aO ag,ay.aO aE,ay.aO cO,Builtin.min_,Lx]
theorem bA.RK{x y z u:Operand}{k:IntKind}{p q r t:Int}{mm:Array TypeId}(ag:aO E x=some (.int k p))(aE:aO E y=some (.int k q))(cO:aO E z=some (.int k r))(hu:aO E u=some (.int k t)):bA P ⟨d,.call { callee:=.builtin .min,args:=#[x,y,z,u],argTypes:=mm },ty,pos,af,gd⟩ E C (.int k (Min.min (Min.min (Min.min p q) r) t)):=λa ay w _=>by
 simp[execOp,resolve,invoke,builtin,ay.aO ag,ay.aO aE,ay.aO cO,ay.aO hu,Builtin.min_,Lx]
theorem bA.tH{s t:TypeId}{x:Operand}{k jy:IntKind}{p:Int}(aT:(P.underlying s).isSome=true)(a_:P.underlying t=some (.int jy))(ag:aO E x=some (.int k p)):bA P ⟨d,.convert s t x,ty,pos,af,gd⟩ E C (.int jy (jy.wrap p)):=λa ay w _=>by
 obtain⟨rB,Ac⟩:=Option.isSome_iff_exists.1 aT
 simp[execOp,ay.aO ag,convert,run_underlying Ac,run_underlying a_,Conv.intToInt]
def fC(r:Int):aj:=(Utf8.encode r).data.toList
theorem bA.vX{s t:TypeId}{x:Operand}{k:IntKind}{p:Int}(aT:(P.underlying s).isSome=true)(a_:P.underlying t=some .string)(ag:aO E x=some (.int k p)):bA P ⟨d,.convert s t x,ty,pos,af,gd⟩ E C (aD (fC p)):=λa ay w _=>by
 simp[execOp,ay.aO ag,run_convert_int_string w s t k p aT a_,aD,fC]
theorem bA.abG{t:TypeId}{x y:Operand}{s:aj}{k:IntKind}{n:Int}(i:Nat)(a_:P.underlying t=some .string)(ag:aO E x=some (aD s))(aE:aO E y=some (.int k n))(aR:n=(i:Int))(ar:i<s.length):
 bA P ⟨d,.index t x y,ty,pos,af,gd⟩ E C (.int .u8 (s[i].toNat:Int)):=λa ay w _=>by
 have h1:(⟨s.toArray⟩:ByteArray)[i]?=some s[i]:=by
  have hP:i<(⟨s.toArray⟩:ByteArray).size:=by simpa[ByteArray.size] using ar
  rw[getElem?_pos _ i hP]
  rfl
 have ah:(0:Int)<=n:=by omega
 have aB:n.toNat=i:=by omega
 simp[execOp,ay.aO ag,ay.aO aE,Instr.index,asIntOf,aD,run_underlying a_,ah,aB,h1]
theorem tI{k:IntKind}{n:Int}{y i:Nat}(code:BoundsCode)(aR:n=(i:Int))(ar:i<=y)(w:World):(Instr.sliceBound (.int k n) y code).run P w=.ok i w:=by
 have h1:0<=n/\n<=(y:Int):=(by omega);have ah:n.toNat=i:=(by omega);simp[Instr.sliceBound,asIntOf,h1,ah]
theorem Ly(s:aj)(i j:Nat):(⟨s.toArray⟩:ByteArray).extract i j=⟨((s.take j).drop i).toArray⟩:=by
 apply ByteArray.ext;rw[ByteArray.data_extract];apply Array.ext';simp[List.drop_take]
theorem bA.Lz{t:TypeId}{x y:Operand}{s:aj}{k:IntKind}{n:Int}(i:Nat)(a_:P.underlying t=some .string)(ag:aO E x=some (aD s))(aE:aO E y=some (.int k n))(aR:n=(i:Int))(ar:i<=s.length):
 bA P ⟨d,.slice t x (some y) none none,ty,pos,af,gd⟩ E C (aD (s.drop i)):=λa ay w _=>by
 have aB:(⟨s.toArray⟩:ByteArray).size=s.length:=by simp[ByteArray.size]
 simp[execOp,ay.aO ag,ay.aO aE,Instr.sliceAt,Instr.slice,Instr.sliceBounds,aD,run_underlying a_,aB,tI _ aR ar,Ly]
theorem bA.LA{t:TypeId}{x y:Operand}{s:aj}{k:IntKind}{n:Int}(i:Nat)(a_:P.underlying t=some .string)(ag:aO E x=some (aD s))(aE:aO E y=some (.int k n))(aR:n=(i:Int))(ar:i<=s.length):
 bA P ⟨d,.slice t x none (some y) none,ty,pos,af,gd⟩ E C (aD (s.take i)):=λa ay w _=>by
 have aB:(⟨s.toArray⟩:ByteArray).size=s.length:=by simp[ByteArray.size]
 simp[execOp,ay.aO ag,ay.aO aE,Instr.sliceAt,Instr.slice,Instr.sliceBounds,aD,run_underlying a_,aB,tI _ aR ar,Ly]
theorem aq.part{t e:TypeId}{sz by_:Nat}{g:Bool}{z:List Value}(h:aq enc w F v l)(a_:P.underlying t=some (.slice e))(he:ey P e=some (g,sz,by_,z))(dN:∀x,(enc x).length=sz)
 {c7 ar:Option Value} (i j:Nat) (B7:(c7=none/\i=0)\/∃k n,c7=some (.int k n)/\n=(i:Int)) (pY:(ar=none/\j=l.length)\/∃k n,ar=some (.int k n)/\n=(j:Int)) (mX:i<=j) (bo:j<=l.length) :
 ∃gT,(∀w,(Instr.sliceAt t v c7 ar none).run P w=.ok gT w)/\aq enc w F gT ((l.take j).drop i):=by
 have ab:∀(cap:Nat) (al:l.length<=cap) (w:World),(Instr.sliceBounds true l.length cap c7 ar none).run P w=.ok (i,j,cap) w:=by
  intro cap al w
  rcases B7 with ⟨rfl,rfl⟩|⟨k,n,rfl,aR⟩<;>rcases pY with ⟨rfl,rfl⟩|⟨jy,m,rfl,hm⟩
  . simp[Instr.sliceBounds]
  . simp[Instr.sliceBounds,tI _ hm (Nat.le_trans bo al)]
  . simp[Instr.sliceBounds,tI _ aR mX]
  . simp[Instr.sliceBounds,tI _ hm (Nat.le_trans bo al),tI _ aR mX]
 obtain⟨a,cap,rfl,ah,aB,bH⟩:=h;have hlen:((l.take j).drop i).length=j-i:=(by rw[List.length_drop,List.length_take];omega);refine⟨.slice (if cap=i then a else a.map (·.add (i*sz))) (j-i) (cap-i),λw=>?_,?_⟩
 . simp[Instr.sliceAt,Instr.slice,run_underlying a_,ab cap ah w,run_sizeOf he]
 . refine⟨_,cap-i,by rw[hlen],by omega,by omega,?_⟩;by_cases aR:(l.take j).drop i=[]
   . exact .inl aR
   . rcases bH with bH|⟨b,off,rfl,c_,e1⟩
     . exact absurd (by subst bH;simp) aR
     . have i_:i<j:=by
        rcases Nat.lt_or_ge i j with h|h
        . exact h
        . exact absurd (List.eq_nil_of_length_eq_zero aa) aR
       have al:cap≠i:=(by omega);refine .inr ⟨b,off+i*sz,by rw[if_neg al];simp[add_lit],c_,?_⟩;have tJ:=rA dN l
       have hle:i*sz+(j-i)*sz<=(l.flatMap enc).length:=by
        rw[tJ,<-Nat.add_mul]
        exact Nat.mul_le_mul_right _ aa
       have:=e1.sub (i*sz) ((j-i)*sz) hle;rw[abE dN,RI dN,<-List.drop_take] at this;exact this
theorem bA.qU{t:TypeId}{x:Operand}{c7 ar RL:Option Operand}{v gT:Value}{Ad uS:Option Value}(ag:aO E x=some v)(B7:c7.map (aO E)=Ad.map some)(pY:ar.map (aO E)=uS.map some)(abH:RL=none)
 (h:∀w,(Instr.sliceAt t v Ad uS none).run P w=.ok gT w):bA P ⟨d,.slice t x c7 ar RL,ty,pos,af,gd⟩ E C gT:=λa ay w _=>by
 have h1:c7.map a.eval=Ad:=by
  cases c7<;>cases Ad<;>simp at B7 ⊢
  exact ay.aO B7
 have ah:ar.map a.eval=uS:=by
  cases ar<;>cases uS<;>simp at pY ⊢
  exact ay.aO pY
 subst abH
 simp[execOp,ay.aO ag,h1,ah,h w]
theorem bA.build{t:TypeId}{hr:Array (Nat×Operand)}{vs:Array (Nat×Value)}{v:Value}(hp:(hr.toList.map λp=>(aO E p.2).map (p.1,·))=vs.toList.map some)(a':∀w,(Instr.build t vs).run P w=.ok v w):
 bA P ⟨d,.build t hr,ty,pos,af,gd⟩ E C v:=λa ay w _=>by
 have h1:(hr.map λ(i,x)=>(i,a.eval x))=vs:=by
  apply Array.ext'
  rw[Array.toList_map]
  have aux:∀(l:List (Nat×Operand)) (r:List (Nat×Value)),(l.map λp=>(aO E p.2).map (p.1,·))=r.map some->l.map (λx=>(x.1,a.eval x.2))=r:=by
   intro l
   induction l with
   | nil=>intro r h;cases r<;>simp_all
   | cons p l cc =>
    intro r h
    cases r with
    | nil=>simp at h
    | cons q r =>
     simp only[List.map_cons,List.cons.injEq] at h ⊢
     refine⟨?_,cc r h.2⟩
     cases he:aO E p.2 with
     | none=>simp[he] at h
     | some u =>
      simp only[he,Option.map_some,Option.some.injEq] at h
      rw[ay.aO he];exact h.1
  exact aux _ _ hp
 simp only[execOp,h1,Sem.run_bind,a' w,Result.andThen_ok,Sem.run_pure]
end
end Go.aG
namespace Go.aG
open Go
def ds(w:World)(b:Nat)(cs:List Value)(e:TypeId):Prop:=w.heap[b]?=some (.cells cs.toArray e (0,0))
theorem ds.keep{M:Nat->Prop}{w ao:World}{b:Nat}{cs:List Value}{e:TypeId}(h:ds w b cs e)(hm:Mod M w ao)(ab:¬ M b):ds ao b cs e:=hm.keep _ _ h ab
theorem ds.ext{w ao:World}{b:Nat}{cs:List Value}{e:TypeId}(h:ds w b cs e)(hm:Ext w ao):ds ao b cs e:=hm.keep _ _ h (λx=>x)
theorem ds.lt{w:World}{b:Nat}{cs:List Value}{e:TypeId}(h:ds w b cs e):b<w.heap.size:=(Array.getElem?_eq_some_iff.1 h).1
theorem ds.row{w:World}{b:Nat}{cs:List Value}{e:TypeId}(h:ds w b cs e):Row w b 0 cs:=Row.eA h
theorem ds.part{w:World}{b:Nat}{cs:List Value}{e:TypeId}(h:ds w b cs e)(i n:Nat)(aR:i+n<=cs.length):Row w b i ((cs.drop i).take n):=by
 have:=h.row.sub i n aR;simpa using this
theorem ds.cell{w:World}{b:Nat}{cs:List Value}{e:TypeId}(h:ds w b cs e)(i:Nat)(v:Value)(cK:cs[i]?=some v):Row w b i [v]:=by
 have hP:i<cs.length:=(List.getElem?_eq_some_iff.1 cK).1;have:=h.part i 1 aa
 have je:(cs.drop i).take 1=[v]:=by
  rw[List.drop_eq_getElem_cons hP]
  have:=(List.getElem?_eq_some_iff.1 cK).2
  simp[this]
 rwa[je] at this
theorem Hj(w:World)(g:Nat)(c:Array Value):Mod (λi=>i=g) w (w.setRow g c):=
 ⟨rfl,rfl,rfl,by simp[World.setRow],λb o ab dL=>by
  rw[setRow_other w g b c (λe=>dL e)];exact ab⟩
section
variable {P:Program} {E:Env} {d:Option Tmp} {ty:TypeId} {pos:String} {af:Array Edge} {gd:Option (Nat×Bool)} {w:World} {K:Value->World->Prop}
theorem gB.box{t:TypeId}{x:Operand}{v:Value}(cs:List Value)(ag:aO E x=some v)(cK:v.cells.toList=cs)(eU:∀ao b,Ext w ao->b=w.heap.size->ao.heap.size=w.heap.size+1->ds ao b cs t->K (ptr b 0) ao):
 gB P ⟨d,.box t x,ty,pos,af,gd⟩ E w K:=λa ay=>by
 have h:=eU (w.alloc (.cells cs.toArray t)) w.heap.size (Mod.alloc _ _ _) rfl dh (by
  show(w.heap.push _)[w.heap.size]?=_
  simp)
 have e:v.cells=cs.toArray:=by rw[<-cK]
 simp[execOp,ay.aO ag,Instr.box,newVar,newRow,out,e]
 exact h
theorem gB.alloc{t:TypeId}{g:Bool}{n by_:Nat}{z:List Value}(a_:ey P t=some (g,n,by_,z))(eU:∀ao b,Ext w ao->b=w.heap.size->ao.heap.size=w.heap.size+1->ds ao b z t->K (ptr b 0) ao):
 gB P ⟨d,.alloc t,ty,pos,af,gd⟩ E w K:=λa ay=>by
 have h:=eU (w.alloc (.cells z.toArray t)) w.heap.size (Mod.alloc _ _ _) rfl dh (by
  show(w.heap.push _)[w.heap.size]?=_
  simp)
 obtain⟨jS,cO,a'⟩:=RE a_ w
 have e:jS.cells=z.toArray:=by rw[<-cO]
 simp[execOp,Instr.alloc,a',newVar,newRow,out,e]
 exact h
theorem gB.store{t e:TypeId}{x y:Operand}{v:Value}{b off n by_:Nat}{g:Bool}{z cs vs:List Value}(a_:ey P t=some (g,n,by_,z))(ag:aO E x=some (ptr b off))(aE:aO E y=some v)
 (cK:v.cells.toList=vs) (aR:vs.length=n) (h1:vs.all (·.oneCell')=true) (ab:ds w b cs e) (bl:off+n<=cs.length)
 (eU:∀ao,Mod (λi=>i+1=b+1) w ao->ao.heap.size=w.heap.size->ds ao b (cs.take off++vs++cs.drop (off+n)) e->K undef ao):gB P ⟨d,.store t x y,ty,pos,af,gd⟩ E w K:=λa ay=>by
 have mH:=run_storeCells_at P b off e vs 0 cs.toArray w ab (by simp;omega) (λu hu=>List.all_eq_true.1 h1 u hu)
 have dN:v.cells.size=n:=by rw[<-Array.length_toList,cK];exact aR
 have h:=eU (w.setRow b (cs.take off++vs++cs.drop (off+n)).toArray) ((Hj _ _ _).weaken (λi ar _=>by omega)) (by simp[World.setRow]) (by
  have:=setRow_heap w b cs.toArray (cs.take off++vs++cs.drop (off+n)).toArray e (0,0) ab
  exact this)
 simp only[Nat.add_zero,aR] at mH
 simp[execOp,ay.aO ag,ay.aO aE,ptr,Instr.storeAt,Instr.sureAddr,storeVar,run_sizeOf a_,dN,cK,mH,out]
 simpa using h
def b8(P:Program)(g:FuncId):Bool:=
 match P.funcs[g]? with
 | some fn => (!(fn.name == "runtime.NumGoroutine")) && fn.body.isSome
 | none=>false
theorem abI{g:FuncId}(h:b8 P g=true)(args:Array Value)(w:World):(callFunc g args).run P w=.ok (.enter g args) w:=by
 unfold b8 at h
 cases bD:P.funcs[g]? with
 | none=>simp[bD] at h
 | some fn =>
  simp only[bD,Bool.and_eq_true,Bool.not_eq_true'] at h
  have h1 : ¬ (fn.name = "runtime.NumGoroutine") := by simpa using h.1
  cases ab:fn.body with
  | none=>simp[ab] at h
  | some c=>simp[callFunc,bD,h1,ab]
def qV(E:Env):List Operand->Option (List Value)
 | []=>some []
 | x::r=>match aO E x with
  | some v=>match qV E r with
   | some vs=>some (v::vs)
   | none=>none
  | none=>none
theorem Has.qV{a:Act}(ay:Has E a):∀{xs:List Operand} {vs:List Value},aG.qV E xs=some vs->xs.map a.eval=vs
 | [],vs,h=>by simp[aG.qV] at h;simp[h]
 | x::r,vs,h=>by
  simp only[aG.qV] at h
  cases ag:aG.aO E x with
  | none=>simp[ag] at h
  | some v =>
   cases a':aG.qV E r with
   | none=>simp[ag,a'] at h
   | some us =>
    simp only[ag,a',Option.some.injEq] at h
    rw[<-h,List.map_cons,ay.aO ag,Has.qV ay a']
def an(rC:Value->World->Prop):Ending->World->Prop:=λe ao=>∃v,e=.returned v/\rC v ao
theorem gB.call{g:FuncId}{c:Operand}{xs:List Operand}{mm:Array TypeId}{first cap:List Value}{vs:List Value}{rC:Value->World->Prop}(aV:b8 P g=true)(al:aO E c=some (.func (.func g) first.toArray cap.toArray))
 (ag:qV E xs=some vs) (h:Calls P g (first++vs++cap).toArray w (an rC)) (eU:∀v ao,rC v ao->K v ao) :
 gB P ⟨d,.call { callee:=.value c,args:=xs.toArray,argTypes:=mm },ty,pos,af,gd⟩ E w K:=λa ay=>by
 have Ee:xs.toArray.map a.eval=vs.toArray:=by
  apply Array.ext'
  simpa using ay.qV ag
 have:(execOp a.eval ⟨d,.call { callee:=.value c,args:=xs.toArray,argTypes:=mm },ty,pos,af,gd⟩).run P w=.ok (.enter g (first++vs++cap).toArray) w:=by
  simp only[execOp,resolve,ay.aO al,Ee,Deferred.ofValue,Sem.run_bind,Sem.run_pure,Result.andThen_ok,invoke]
  rw[abI aV]
  simp
 rw[this]
 exact Calls.mono h (λe ao ⟨v,he,cK⟩=>⟨v,he,eU _ _ cK⟩)
theorem RM(P:Program)(sz:Nat):∀(vs:List Value) (k:Nat) (pre rest:List Value),pre.length=k*sz->rest.length=vs.length*sz->(∀v∈vs,v.cells.size=sz) ->
 Instr.fill (λi=>some (i*sz,sz)) (pre++rest).toArray ((vs.zipIdx k).map λp=>(p.2,p.1))=some (pre++vs.flatMap (λv=>v.cells.toList)).toArray
 | [],k,pre,rest,hp,a',h=>by
  have:rest=[]:=List.eq_nil_of_length_eq_zero (by simpa using a')
  simp[Instr.fill,this]
 | v::vs,k,pre,rest,hp,a',h=>by
  have cK:v.cells.size=sz:=h v dh
  have hlen:rest.length=sz+vs.length*sz:=by simpa[Nat.add_mul,Nat.add_comm] using a'
  simp only[List.zipIdx_cons,List.map_cons,Instr.fill]
  have al:(decide (v.cells.size≠sz) || decide (k*sz+v.cells.size>(pre++rest).toArray.size))=false:=by
   simp[cK,hp,hlen]
  simp only[ne_eq] at al
  rw[if_neg (by simpa using al)]
  have abJ:∀(cs:List Value) (j:Nat) (arr:Array Value) (B8 vY:List Value) (post:List Value),arr=(B8++vY++post).toArray->B8.length=k*sz+j->vY.length=cs.length ->
   (cs.zipIdx j).foldl (λ(a:Array Value) (x:Value×Nat)=>a.setIfInBounds (k*sz+x.2) x.1) arr=(B8++cs++post).toArray:=by
   intro cs
   induction cs with
   | nil=>intro j arr B8 vY post ay h1 ah;have:vY=[]:=List.eq_nil_of_length_eq_zero (by simpa using ah);simp[ay,this]
   | cons c cs cc =>
    intro j arr B8 vY post ay h1 ah
    cases vY with
    | nil=>simp at ah
    | cons m vY =>
     simp only[List.zipIdx_cons,List.foldl_cons]
     have:=cc (j+1) (arr.setIfInBounds (k*sz+j) c) (B8++[c]) vY post (by
      subst ay
      apply Array.ext'
      rw[Array.toList_setIfInBounds]
      simp only[List.append_assoc,List.cons_append,List.nil_append]
      rw[<-h1,List.set_append_right _ _ (Nat.le_refl _)]
      simp) (by simp[h1];omega) (by simpa using ah)
     simpa using this
  have bD:=abJ v.cells.toList 0 (pre++rest).toArray pre (rest.take sz) (rest.drop sz) (by simp[List.append_assoc]) (by simpa using hp) (by simp[cK];omega)
  have cO:(v.cells.zipIdx.foldl (λcs (x:Value×Nat)=>cs.setIfInBounds (k*sz+x.2) x.1) (pre++rest).toArray)=(pre++v.cells.toList++rest.drop sz).toArray:=by
   rw[<-Array.foldl_toList,Array.toList_zipIdx]
   exact bD
  have cc:=RM P sz vs (k+1) (pre++v.cells.toList) (rest.drop sz) (by simp[hp,cK,Nat.add_mul]) (by simp[hlen]) (λu hu=>h u (by simp[hu]))
  rw[cO]
  simp only[List.flatMap_cons]
  rw[<-List.append_assoc]
  exact cc
theorem gB.buildSlice{t e:TypeId}{len sz by_:Nat}{g:Bool}{z:List Value}{hr:Array (Nat×Operand)}(vs:List Value)(a_:P.underlying t=some (.slice e))(he:ey P e=some (g,sz,by_,z))
 (hp:(hr.toList.map λp=>(aO E p.2).map (p.1,·))=(vs.zipIdx.map λp=>(p.2,p.1)).map some) (hlen:vs.length=len) (dN:(vs.all λv=>v.cells.size==sz)=true) (arl:len*sz<=16777216)
 (eU:∀ao b,Ext w ao->b=w.heap.size->ao.heap.size=w.heap.size+1->ds ao b (vs.flatMap λv=>v.cells.toList) e->K (.slice (some ⟨b,0,none⟩) len len) ao) :
 gB P ⟨d,.buildSlice t len hr,ty,pos,af,gd⟩ E w K:=λa ay=>by
 have h1:(hr.map λ(i,x)=>(i,a.eval x))=(vs.zipIdx.map λp=>(p.2,p.1)).toArray:=by
  apply Array.ext'
  rw[Array.toList_map]
  have aux:∀(l:List (Nat×Operand)) (r:List (Nat×Value)),(l.map λp=>(aO E p.2).map (p.1,·))=r.map some->l.map (λx=>(x.1,a.eval x.2))=r:=by
   intro l
   induction l with
   | nil=>intro r h;cases r<;>simp_all
   | cons p l cc =>
    intro r h
    cases r with
    | nil=>simp at h
    | cons q r =>
     simp only[List.map_cons,List.cons.injEq] at h ⊢
     refine⟨?_,cc r h.2⟩
     cases cK:aO E p.2 with
     | none=>simp[cK] at h
     | some u =>
      simp only[cK,Option.map_some,Option.some.injEq] at h
      rw[ay.aO cK];exact h.1
  exact aux _ _ hp
 obtain⟨jS,cO,a'⟩:=RE he w
 have fW:∀v∈vs,v.cells.size=sz:=λv cK=>by have:=List.all_eq_true.1 dN v cK;simpa using this
 have nz:¬ (16777216<len*sz):=by omega
 have h:=eU (w.alloc (.cells (vs.flatMap λv=>v.cells.toList).toArray e)) w.heap.size (Mod.alloc _ _ _) rfl dh (by
  show(w.heap.push _)[w.heap.size]?=_
  simp)
 have key:∀nA:Array Value,nA.size=len*sz->Instr.fill (λi=>some (i*sz,sz)) nA (vs.zipIdx.map λp=>(p.2,p.1))=some (vs.flatMap λv=>v.cells.toList).toArray:=λnA vZ=>by
  have:=RM P sz vs 0 [] nA.toList dh (by simp[vZ,hlen]) fW
  simpa using this
 by_cases bK:len*sz=0
 . have hk:=key (Array.map (λ_=>default) (Array.range 0)) (by simpa using bK.symm)
   simp[execOp,h1,Instr.buildSlice,run_underlying a_,run_sizeOf he,bK,out,newRow,hk]
   exact h
 . have hk:=key ((Array.range (len*sz)).map (jS.cells[· % jS.cells.size]!)) dh
   simp[execOp,h1,Instr.buildSlice,run_underlying a_,run_sizeOf he,bK,nz,a',out,newRow,hk]
   exact h
end
def b3(g:Nat):Nat->Prop:=λb=>b+1=g
def dq(c7 ar:Nat):Nat->Prop:=λb=>c7<=b/\b<ar
theorem Mod.gb{g:Nat}{w ao:World}(h:Ext w ao):Mod (b3 g) w ao:=Ext.mod h _
theorem Mod.Ef{w ao:World}(h:Mod (b3 0) w ao):Ext w ao:=h.weaken (λi ar _=>by simp[b3] at ar)
theorem Ext.gM{g:Nat}{w0 w ao:World}(h:Ext w0 w)(k:Mod (b3 g) w ao)(aV:g=0\/w0.heap.size<g):Ext w0 ao:=
 h.then k (λi ar bl=>by unfold b3 at ar;omega)
theorem Mod.gM{g g0:Nat}{w0 w ao:World}(h:Mod (b3 g0) w0 w)(k:Mod (b3 g) w ao)(aV:g=0\/w0.heap.size<g\/g=g0):Mod (b3 g0) w0 ao:=
 h.then k (λi ar bl=>by unfold b3 at *;omega)
theorem aq.cz{α:Type}{enc:α->List Value}{w:World}{c7 ar Ad uS:Nat}{v:Value}{l:List α}(h:aq enc w (dq c7 ar) v l)(h1:Ad<=c7)(ah:ar<=uS):aq enc w (dq Ad uS) v l:=
 h.mono λb ab=>by unfold dq at *;omega
theorem aq.bF{α:Type}{enc:α->List Value}{w ao:World}{c7 ar g:Nat}{v:Value}{l:List α}(h:aq enc w (dq c7 ar) v l)(hm:Mod (b3 g) w ao)(aV:g<=c7\/ar<g):aq enc ao (dq c7 ar) v l:=
 h.keep hm λb ab ag=>by unfold dq b3 at *;omega
theorem Row.bF{w ao:World}{b off g:Nat}{cs:List Value}(h:Row w b off cs)(hm:Mod (b3 g) w ao)(aV:b+1≠g):Row ao b off cs:=h.keep hm aV
theorem ds.bF{w ao:World}{b g:Nat}{cs:List Value}{e:TypeId}(h:ds w b cs e)(hm:Mod (b3 g) w ao)(aV:b+1≠g):ds ao b cs e:=h.keep hm aV
section
variable {α:Type}
def Acc(enc:α->List Value)(e:TypeId)(sz:Nat)(w:World)(g:Nat)(v:Value)(l:List α):Prop:=
 (v=.slice none 0 0/\l=[]/\g=0) \/
 ∃b cap cur,g=b+1/\v=.slice (some ⟨b,0,none⟩) l.length cap/\w.heap[b]?=some (.cells cur e (0,0))/\l.length<=cap/\cap<=maxLen/\cur.size=cap*sz/\cur.toList.take (l.length*sz)=l.flatMap enc
variable {enc:α->List Value} {e:TypeId} {sz:Nat} {w:World} {g:Nat} {v:Value} {l:List α}
theorem Acc.nil:Acc enc e sz w 0 (.slice none 0 0) []:=.inl ⟨rfl,rfl,rfl⟩
theorem Acc.keep{M:Nat->Prop}{ao:World}(h:Acc enc e sz w g v l)(hm:Mod M w ao)(aV:∀b,g=b+1->¬ M b):Acc enc e sz ao g v l:=by
 rcases h with h|⟨b,cap,cur,bK,h1,ah,aB⟩
 . exact .inl h
 . exact .inr ⟨b,cap,cur,bK,h1,hm.keep _ _ ah (aV b bK),aB⟩
theorem Acc.ext{ao:World}(h:Acc enc e sz w g v l)(hm:Ext w ao):Acc enc e sz ao g v l:=h.keep hm (λ_ _ x=>x)
theorem Acc.bF{fz:Nat}{ao:World}(h:Acc enc e sz w g v l)(hm:Mod (b3 fz) w ao)(aV:g≠fz\/g=0):Acc enc e sz ao g v l:=
 h.keep hm λb ab ag=>by unfold b3 at ag;omega
theorem Acc.lt(h:Acc enc e sz w g v l):g<=w.heap.size:=by
 rcases h with ⟨_,_,h⟩|⟨b,cap,cur,bK,_,ah,_⟩
 . omega
 . have:=(Array.getElem?_eq_some_iff.1 ah).1;omega
theorem Acc.le(h:Acc enc e sz w g v l):l.length<=9223372036854775807:=by
 rcases h with ⟨_,h,_⟩|⟨b,cap,cur,_,_,_,aB,bH,_⟩
 . simp[h]
 . exact Nat.le_trans aB bH
theorem Acc.cj(h:Acc enc e sz w g v l):aq enc w (dq (g-1) g) v l:=by
 rcases h with ⟨h,gL,_⟩|⟨b,cap,cur,bK,h1,ah,aB,bH,c_,e1⟩
 . subst gL;exact h▸aq.nil
 . refine⟨_,cap,h1,aB,bH,.inr ⟨b,0,rfl,by unfold dq;omega,λi u hu=>?_⟩⟩;rw[<-e1,List.getElem?_take] at hu;split at hu
   . rw[cell_of_row w b (0+i) cur e (0,0) ah];simpa using hu
   . cases hu
theorem Acc.fresh{B:Nat}(h:Acc enc e sz w g v l)(aV:g=0\/B<g):aq enc w (dq B w.heap.size) v l:=by
 have bl:=h.lt;rcases aV with bK|bK
 . rcases h with ⟨h,gL,_⟩|⟨b,_,_,h1,_⟩
   . subst gL;exact h▸aq.nil
   . omega
 . exact h.cj.cz aa bl
theorem Acc.append{P:Program}(h:Acc enc e sz w g v l){t ty:TypeId}{fT:Bool}{by_:Nat}{z:List Value}(a_:P.underlying t=some (.slice e))(he:ey P e=some (fT,sz,by_,z))(cO:z.length=sz)
 (dN:∀x,(enc x).length=sz) (h1:∀x,(enc x).all (·.oneCell')=true) {F:Nat->Prop} {v2:Value} {dP:List α} (aT:aq enc w F v2 dP) (xk:(l.length+dP.length)*by_<=140737488355328) (tK:l.length+dP.length<=maxLen) :
 ∃gT fz ao,(Builtin.append_ #[t,t] ty #[v,v2]).run P w=.ok gT ao/\Acc enc e sz ao fz gT (l++dP)/\Mod (b3 g) w ao/\(fz=g\/w.heap.size<fz):=by
 obtain⟨i,jF,jS,rD,i2,i3,i4,i5,Eg,RN⟩:=B6 he
 have Hk:∀u∈dP.flatMap enc,u.oneCell'=true:=λu hu=>by
  obtain⟨x,_,ag⟩:=List.mem_flatMap.1 hu
  exact List.all_eq_true.1 (h1 x) u ag
 have dk:(dP.flatMap enc).length=dP.length*i.size:=(by rw[rA dN,i4]);have mn:(l.flatMap enc).length=l.length*i.size:=(by rw[rA dN,i4]);have vZ:jS.cells.size=sz:=(by rw[<-Array.length_toList,Eg,cO]);have RO:l.length+dP.length<=9223372036854775807:=tK;-- abK abL cells
 obtain⟨a2,Ae,rfl,Eh,aA,aT⟩:=aT;by_cases tL:dP=[]
 . -- nothing is abL
   subst tL;refine⟨v,g,w,?_,by simpa using h,Mod.refl _ _,.inl rfl⟩
   have RP:(Builtin.firstCells i.size 0 (.slice a2 0 Ae)).run P w=.ok #[] w:=by
    cases a2<;>simp[Builtin.firstCells,loadCells,loadCellsFrom]
   rcases h with ⟨rfl,rfl,_⟩|⟨b,cap,cur,_,rfl,aV,uT,_⟩
   . simp[Builtin.append_,run_underlying a_,sizeOf,typeInfo,rD,Builtin.lenOf,RP]
   . simp[Builtin.append_,run_underlying a_,sizeOf,typeInfo,rD,Builtin.lenOf,uT,RP,storeCells]
 . obtain⟨aQ,pn,rfl,bs,cY⟩:∃aQ pn,a2=some (⟨aQ,pn,none⟩:Addr)/\F aQ/\Row w aQ pn (dP.flatMap enc):=by
    rcases aT with h|⟨aQ,pn,h1,ah,aB⟩
    . exact absurd h tL
    . exact⟨aQ,pn,h1,ah,aB⟩
   have Ei:∀j u,(dP.flatMap enc)[j]?=some u->w.cell? ((⟨aQ,pn,none⟩:Addr).add j)=some u:=λj u hu=>by
    rw[add_lit];exact cY.cell j u hu
   have fresh:∀(n3:Nat),n3<l.length+dP.length->∀aZ:World,aZ=w.drew.alloc (.cells ((l.flatMap enc).toArray++(dP.flatMap enc).toArray++Builtin.zeroCells jS.cells (grownCap w (l.length+dP.length) n3 e-(l.length+dP.length))) e) ->
    Acc enc e sz aZ (w.heap.size+1) (.slice (some ⟨w.heap.size,0,none⟩) (l.length+dP.length) (grownCap w (l.length+dP.length) n3 e)) (l++dP)/\Mod (b3 g) w aZ:=by
    intro n3 eh aZ eC
    subst eC
    have yy:=grownCap_ge w (l.length+dP.length) n3 e
    have sV:grownCap w (l.length+dP.length) n3 e<=maxLen:=grownCap_le_maxLen w (l.length+dP.length) n3 e tK
    refine⟨.inr ⟨_,_,_,rfl,by rw[List.length_append],heap_alloc_new w.drew _,by rw[List.length_append];exact yy,sV,?_,?_⟩,?_⟩
    . simp only[Array.size_append,List.size_toArray,size_zeroCells,vZ,mn,dk,i4,<-Nat.add_mul]
      congr 1
      omega
    . simp only[Array.toList_append,List.flatMap_append]
      have fU:(l++dP).length*sz=((l.flatMap enc)++(dP.flatMap enc)).length:=by rw[List.length_append,List.length_append,mn,dk,i4,Nat.add_mul]
      rw[fU]
      exact List.take_left
    . exact(Mod.drew _ w).trans (Mod.alloc _ _ _)
   rcases h with ⟨rfl,rfl,rfl⟩|⟨b,cap,cur,rfl,rfl,aV,uT,sV,jG,RQ⟩
   . by_cases bK:dP.length=0
     . have:dP=[]:=List.eq_nil_of_length_eq_zero bK
       subst this;refine⟨.slice none 0 0,0,w,?_,Acc.nil,Mod.refl _ _,.inl rfl⟩;simp[Builtin.append_,run_underlying a_,sizeOf,typeInfo,rD,Builtin.lenOf,Builtin.firstCells,loadCells,loadCellsFrom]
     . have tM:dP.length*i.bytes<=281474976710656:=by
        have ab:=xk;simp only[List.length_nil,Nat.zero_add] at ab;rw[i5];omega
       have a':=run_append_nil (P:=P) w t ty e i jS a_ rD i3 ⟨aQ,pn,none⟩ dP.length Ae (dP.flatMap enc) dk Ei aa (by have:=RO;simp only[List.length_nil,Nat.zero_add] at this;omega) tM;have bD:=fresh 0 (by simp;omega) _ rfl;simp only[List.length_nil,Nat.zero_add,List.flatMap_nil,List.nil_append,Array.empty_append] at bD;exact⟨_,_,_,a',bD.1,bD.2,.inr (Nat.lt_succ_self _)⟩
   . by_cases B9:l.length+dP.length<=cap
     . have abM:l.length*i.size+(dP.flatMap enc).length<=cur.size:=(by rw[dk,jG,i4,<-Nat.add_mul];exact Nat.mul_le_mul_right _ B9);have a':=run_append_room (P:=P) w t ty e i a_ rD b l.length cap cur aV ⟨aQ,pn,none⟩ dP.length Ae (dP.flatMap enc) dk Ei Hk B9 abM;refine⟨_,b+1,_,a',.inr ⟨b,cap,_,rfl,by rw[List.length_append],setRow_heap w b cur _ e _ aV,by rw[List.length_append];exact B9,sV,?_,?_⟩,(Hj _ _ _).weaken (λi ar _=>by unfold b3;omega),.inl rfl⟩
       . simp only[List.size_toArray,List.length_append,List.length_take,List.length_drop,Array.length_toList];omega
       . rw[i4,RQ,List.flatMap_append];have fU:(l++dP).length*sz=((l.flatMap enc)++(dP.flatMap enc)).length:=(by rw[List.length_append,List.length_append,mn,dk,i4,Nat.add_mul]);rw[fU];exact List.take_left
     . have holds:∀j u,(l.flatMap enc)[j]?=some u->w.cell? ((⟨b,0,none⟩:Addr).add j)=some u:=λj u hu=>by
        rw[add_lit,cell_of_row w b (0+j) cur e (0,0) aV]
        rw[<-RQ,List.getElem?_take] at hu
        split at hu
        . simpa using hu
        . cases hu
       have a':=run_append_grow (P:=P) w t ty e i jS a_ rD i3 ⟨b,0,none⟩ l.length cap (l.flatMap enc) mn holds ⟨aQ,pn,none⟩ dP.length Ae (dP.flatMap enc) dk Ei aa aa (by rw[i5];exact growslice_fits aa xk);have bD:=fresh cap aa _ rfl;exact⟨_,_,_,a',bD.1,bD.2,.inr (Nat.lt_succ_self _)⟩
theorem gB.append{P:Program}{E:Env}{d:Option Tmp}{ty:TypeId}{pos:String}{af:Array Edge}{gd:Option (Nat×Bool)}{K:Value->World->Prop}{t:TypeId}{x y:Operand}{fT:Bool}{by_:Nat}{z:List Value}{F:Nat->Prop}{v2:Value}{dP:List α}
 (h:Acc enc e sz w g v l) (a_:P.underlying t=some (.slice e)) (he:ey P e=some (fT,sz,by_,z)) (cO:z.length=sz)
 (dN:∀x,(enc x).length=sz) (h1:∀x,(enc x).all (·.oneCell')=true) (ag:aO E x=some v) (aE:aO E y=some v2) (aT:aq enc w F v2 dP) (xk:(l.length+dP.length)*by_<=140737488355328) (tK:l.length+dP.length<=maxLen)
 (eU:∀gT fz ao,Acc enc e sz ao fz gT (l++dP)->Mod (b3 g) w ao->(fz=g\/w.heap.size<fz)->w.heap.size<=ao.heap.size->K gT ao) :
 gB P ⟨d,.call { callee:=.builtin .append,args:=#[x,y],argTypes:=#[t,t] },ty,pos,af,gd⟩ E w K:=λa ay=>by
 obtain⟨gT,fz,ao,a',ah,aB,bH⟩:=h.append (ty:=ty) a_ he cO dN h1 aT xk tK
 simp only[execOp,resolve,invoke,builtin,Sem.run_bind,Sem.run_pure,Result.andThen_ok,List.map_toArray,List.map_cons,List.map_nil,ay.aO ag,ay.aO aE,a',out]
 exact eU _ _ _ ah aB bH aB.size
end
theorem aq.eA{α:Type}{enc:α->List Value}{w:World}{b:Nat}{e:TypeId}{cs:List Value}(h:ds w b cs e)(l:List α)(n:Nat)(al:cs=l.flatMap enc)(aR:l.length=n)(hm:n<=maxLen):aq enc w (dq b (b+1)) (.slice (some ⟨b,0,none⟩) n n) l:=by
 subst aR;exact⟨_,l.length,rfl,Nat.le_refl _,hm,.inr ⟨b,0,rfl,by unfold dq;omega,by rw[<-al];exact h.row⟩⟩
theorem Acc.eA{α:Type}{enc:α->List Value}{w:World}{b:Nat}{e:TypeId}{sz:Nat}{cs:List Value}(h:ds w b cs e)(l:List α)(n:Nat)(al:cs=l.flatMap enc)(dN:∀x,(enc x).length=sz)(aR:l.length=n)(hm:n<=maxLen):Acc enc e sz w (b+1) (.slice (some ⟨b,0,none⟩) n n) l:=by
 subst aR;have bl:=rA dN l;refine .inr ⟨b,l.length,cs.toArray,rfl,rfl,h,Nat.le_refl _,hm,by rw[al];simpa using bl,?_⟩;rw[al,<-bl];exact List.take_length
def dec(s:aj):Nat×Nat:=Utf8.decode ⟨s.toArray⟩ 0
theorem RR(s:aj)(n:Nat):Utf8.decode ⟨s.toArray⟩ n=dec (s.drop n):=by
 have h:=Lib.tail_decode ⟨s.toArray⟩ n 0
 have e:(⟨s.toArray⟩:ByteArray).extract n (⟨s.toArray⟩:ByteArray).size=⟨(s.drop n).toArray⟩:=by
  rw[Ly]
  have:(⟨s.toArray⟩:ByteArray).size=s.length:=by simp[ByteArray.size]
  rw[this,List.take_length]
 rw[e] at h;simpa[dec] using h.symm
theorem yz(s:aj)(h:s≠[]):1<=(dec s).2:=by
 refine Lib.decode_width_pos _ _ ?_
 cases s with
 | nil=>exact absurd rfl h
 | cons a s=>simp[ByteArray.size]
theorem B_(s:aj)(h:s≠[]):(dec s).2<=s.length:=by
 have dN:(⟨s.toArray⟩:ByteArray).size=s.length:=by simp[ByteArray.size]
 cases s with
 | nil=>exact absurd rfl h
 | cons a s =>
  unfold dec Utf8.decode;simp only[dN,List.length_cons];repeat' split
  all_goals simp_all
  all_goals omega
theorem RS(s:aj):(dec s).1<=1114111:=by
 unfold dec Utf8.decode Utf8.runeError;simp only;repeat' split
 all_goals simp_all[Utf8.valid]
 all_goals omega
def se(w:World)(b:Nat)(s:aj)(pos:Nat):Prop:=w.heap[b]?=some (.stringIter ⟨s.toArray⟩ pos)
theorem se.bF{w ao:World}{b g:Nat}{s:aj}{pos:Nat}(h:se w b s pos)(hm:Mod (b3 g) w ao)(aV:b+1≠g):se ao b s pos:=hm.keep _ _ h aV
theorem se.ext{w ao:World}{b:Nat}{s:aj}{pos:Nat}(h:se w b s pos)(hm:Ext w ao):se ao b s pos:=hm.keep _ _ h (λx=>x)
theorem se.lt{w:World}{b:Nat}{s:aj}{pos:Nat}(h:se w b s pos):b<w.heap.size:=(Array.getElem?_eq_some_iff.1 h).1
section
variable {P:Program} {E:Env} {d:Option Tmp} {ty:TypeId} {pos:String} {af:Array Edge} {gd:Option (Nat×Bool)} {w:World} {K:Value->World->Prop}
theorem gB.LB{t:TypeId}{x:Operand}{s:aj}(a_:P.underlying t=some .string)(ag:aO E x=some (aD s))
 (eU:∀ao b,Ext w ao->b=w.heap.size->ao.heap.size=w.heap.size+1->se ao b s 0->K (ptr b 0) ao):gB P ⟨d,.range t x,ty,pos,af,gd⟩ E w K:=λa ay=>by
 have h:=eU (w.alloc (.stringIter ⟨s.toArray⟩ 0)) w.heap.size (Mod.alloc _ _ _) rfl dh (by
  show(w.heap.push _)[w.heap.size]?=_
  simp)
 simp[execOp,ay.aO ag,Instr.range,aD,run_underlying a_,out]
 exact h
theorem gB.iD{x:Operand}{s:aj}{b i:Nat}(ag:aO E x=some (ptr b 0))(ar:se w b s i)(abN:s.drop i=[]->K (.tuple #[.bool false]) w)
 (eU:∀ao,s.drop i≠[]->Mod (b3 (b+1)) w ao->ao.heap.size=w.heap.size->se ao b s (i+(dec (s.drop i)).2)->K (.tuple #[.bool true,.int .i64 i,.int .i32 ((dec (s.drop i)).1:Int)]) ao) :
 gB P ⟨d,.next x true,ty,pos,af,gd⟩ E w K:=λa ay=>by
 have aB:(⟨s.toArray⟩:ByteArray).size=s.length:=by simp[ByteArray.size]
 by_cases bl:i<s.length
 . have dL:s.drop i≠[]:=λe=>by have:=congrArg List.length e;simp at this;omega
   have h:=eU { w with heap:=w.heap.setIfInBounds b (.stringIter ⟨s.toArray⟩ (i+(dec (s.drop i)).2)) } dL
    ⟨rfl,rfl,rfl,by simp,λk o hk aR=>by
     have:b≠k:=λe=>aR (by unfold b3;omega)
     show(w.heap.setIfInBounds b _)[k]?=_
     rw[Array.getElem?_setIfInBounds_ne this];exact hk⟩ dh (by
     show(w.heap.setIfInBounds b _)[b]?=_
     have ab:=ar.lt
     simp[ab])
   have aV:w.heap[b]?=some (.stringIter ⟨s.toArray⟩ i):=ar
   simp[execOp,ay.aO ag,ptr,Instr.next,getObj,setObj,Sem.run,aV,aB,bl,RR,goInt,out]
   exact h
 . have he:s.drop i=[]:=List.drop_of_length_le aa
   have aV:w.heap[b]?=some (.stringIter ⟨s.toArray⟩ i):=ar
   simp[execOp,ay.aO ag,ptr,Instr.next,getObj,Sem.run,aV,aB,bl,out]
   exact abN he
end
end Go.aG
namespace Go.aG
open Go
section
variable {P:Program} {f:FuncId} {R:Ending->World->Prop} {n:Nat}
def Ej:Nat->List Value->Env
 | _,[]=>[]
 | i,v::r=>(i,v)::Ej (i+1) r
theorem RT:∀(vs:List Value) (j i:Nat) (v:Value),mG i (Ej j vs)=some v->j<=i/\vs[i-j]?=some v
 | [],_,_,_,h=>by simp[Ej,mG] at h
 | u::r,j,i,v,h=>by
  simp only[Ej,mG] at h
  cases ab:Nat.beq i j with
  | true =>
   have:=Nat.eq_of_beq_eq_true ab
   simp only[ab,Option.some.injEq] at h
   subst this
   simp[h]
  | false =>
   simp only[ab] at h
   obtain⟨h1,ah⟩:=RT r (j+1) i v h
   refine⟨by omega,?_⟩
   have:i-j=(i-(j+1))+1:=by omega
   rw[this]
   simpa using ah
theorem bP{fn:Func}{c:Code}{vs:List Value}{w:World}(bD:P.funcs[f]?=some fn)(ab:fn.body=some c)(aR:fn.ntmps=n)(hle:Nat.ble vs.length n=true)
 (h:hx P f R n (Ej 0 vs) [.code c] w):Calls P f vs.toArray w R:=
 aa6 bD ab (h _ ⟨by have:=Nat.le_of_ble_eq_true hle;simp[aR];omega,rfl,λi v cK=>by
  obtain⟨_,ah⟩:=RT vs 0 i v cK
  simp only[Nat.sub_zero] at ah
  have hP:=(List.getElem?_eq_some_iff.1 ah).1
  simp only[Array.getD_eq_getD_getElem?]
  rw[Array.getElem?_append_left (by simpa using hP)]
  simp[ah]⟩)
theorem fK.dc{ops:Array Oper}{o:Oper}{l:List Oper}{E:Env}{k:List Item}{w:World}{m_:Bool}(dM:bA P o E (λao=>ao=w) (.bool m_))
 (hw:want n ops E o.guard=some true) (hd:ke n o.dst=true) (h:∀b:Bool,b=m_->fK P f R n ops l (pu o.dst (.bool b) E) k w):fK P f R n ops (o::l) E k w:=
 fK.q dM hw hd (h m_ rfl)
theorem hR.dc{C:World->Prop}{A:Nat->Bool}{Z:Nat}{ops:Array Oper}{o:Oper}{i:Nat}{l:List Nat}{E:Env}{k:List Item}{w:World}{m_:Bool}(eh:ops[i]?=some o)(bf:A i=false)(dM:bA P o E C (.bool m_))
 (hw:want n ops E o.guard=some true) (hd:ke n o.dst=true) (h:∀b:Bool,b=m_->hR P f R n C A Z ops l (pu o.dst (.bool b) E) k w):hR P f R n C A Z ops (i::l) E k w:=
 hR.q eh bf dM hw hd (h m_ rfl)
theorem eT(A:Nat->Bool)(Z:Nat)(C:World->Prop){id:Nat}{ops:Array Oper}{E:Env}{k:List Item}{w:World}(hm:P.follows .mixedOrders=true){l:List Nat}
 (h:∀ai,Ext w ai->C ai/\hR P f R n C A Z ops l E k ai) (fY:B2 ops A Z=true:=by kernel_rfl) (bl:List.range' 0 ops.size=l:=by exact rfl):hx P f R n E (.code (.region id ops true)::k) w:=
 abx A Z C hm fY (bl▸h w.drew (Mod.drew _ _))
end
section
variable {P:Program} {E:Env} {d:Option Tmp} {ty:TypeId} {pos:String} {af:Array Edge} {gd:Option (Nat×Bool)} {w:World} {K:Value->World->Prop}
theorem gB.aH{g:FuncId}{xs:List Operand}{mm:Array TypeId}{vs:List Value}{rC:Value->World->Prop}(aV:b8 P g=true)
 (ag:qV E xs=some vs) (h:Calls P g vs.toArray w (an rC)) (eU:∀v ao,rC v ao->K v ao) :
 gB P ⟨d,.call { callee:=.value (.func g),args:=xs.toArray,argTypes:=mm },ty,pos,af,gd⟩ E w K:=
 gB.call (first:=[]) (cap:=[]) aV rfl ag (by simpa using h) eU
theorem gB.abO {g : FuncId} {fn : Func} {e : Array Value → Sem Value} {xs : List Operand} {mm : Array TypeId} {vs : List Value} {v : Value} (bD : P.funcs[g]? = some fn) (abP : (fn.name == "runtime.NumGoroutine") = false)
 (ab:fn.body.isNone=true) (aR:Extern.findNext fn=none) (he:Extern.find fn=some e) (ag:qV E xs=some vs) (a':(e vs.toArray).run P w=.ok v w) (eU:K v w) :
 gB P ⟨d,.call { callee:=.value (.func g),args:=xs.toArray,argTypes:=mm },ty,pos,af,gd⟩ E w K:=λa ay=>by
 have Ee:xs.toArray.map a.eval=vs.toArray:=by
  apply Array.ext'
  simpa using ay.qV ag
 have:(execOp a.eval ⟨d,.call { callee:=.value (.func g),args:=xs.toArray,argTypes:=mm },ty,pos,af,gd⟩).run P w=.ok (.value v) w:=by
  have abQ:a.eval (.func g)=.func (.func g) #[] #[]:=rfl
  simp only[execOp,resolve,abQ,Ee,Deferred.ofValue,Sem.run_bind,Sem.run_pure,Result.andThen_ok,invoke,Array.append_empty,Array.empty_append]
  rw[run_callFunc_extern bD abP ab aR he,a']
  rfl
 rw[this]
 exact eU
end
theorem aq.fL{α:Type}{enc:α->List Value}{w:World}{c7 up:Nat}{v:Value}{l:List α}(h:aq enc w (dq c7 up) v l){P:Program}{t e:TypeId}{sz by_:Nat}{g:Bool}{z:List Value}(a_:P.underlying t=some (.slice e))(he:ey P e=some (g,sz,by_,z))(dN:∀x,(enc x).length=sz){k:IntKind}{n:Int}(i:Nat)(aR:n=(i:Int))(ar:i<l.length):
 ∃x b off,l[i]?=some x/\(∀w,(Instr.indexAt t v (.int k n)).run P w=.ok (ptr b off) w)/\c7<=b/\b<up/\Row w b off (enc x):=by
 obtain⟨b,off,h1,ah,aB⟩:=h.at a_ he dN (k:=k) i aR ar;exact⟨l[i],b,off,by simp,h1,ah.1,ah.2,aB⟩
theorem aq.cast{α:Type}{enc:α->List Value}{w:World}{F:Nat->Prop}{v:Value}{l jU:List α}(h:aq enc w F v l)(e:l=jU):aq enc w F v jU:=e▸h
def encI(n:Int):List Value:=[.int .i64 n]
def eB(b:UInt8):List Value:=[.int .u8 (b.toNat:Int)]
def iK(n:Int):List Value:=[.int .i32 n]
def cx(s:aj):List Value:=[aD s]
theorem gF(x:Int):(encI x).length=1:=rfl
theorem n4(x:UInt8):(eB x).length=1:=rfl
theorem oy(x:Int):(iK x).length=1:=rfl
theorem h4(x:aj):(cx x).length=1:=rfl
theorem xl(x:Int):(encI x).all (·.oneCell')=true:=rfl
theorem B'(x:UInt8):(eB x).all (·.oneCell')=true:=rfl
theorem Ek(x:Int):(iK x).all (·.oneCell')=true:=rfl
theorem xm(x:aj):(cx x).all (·.oneCell')=true:=rfl
abbrev b6(n:Int):Prop:=-9223372036854775808<=n/\n<=9223372036854775807
theorem an.mk{rC:Value->World->Prop}{v:Value}{w:World}(h:rC v w):an rC (.returned v) w:=⟨v,rfl,h⟩
section
variable {P:Program} {f:FuncId} {rC:Value->World->Prop} {n:Nat} {E:Env} {k:List Item} {w:World} {fn:Func} {t u:Tmp} {v x:Value}
theorem n5(bD:P.funcs[f]?=some fn)(fo:rC v w)(ow:fn.results=#[.tmp t]:=by exact rfl)(cK:mG t E=some v:=by exact rfl):hx P f (an rC) n E (.code .ret::k) w:=aN bD ow cK (an.mk fo)
theorem Af(bD:P.funcs[f]?=some fn)(fo:rC (.tuple #[v,x]) w)(ow:fn.results=#[.tmp t,.tmp u]:=by exact rfl)(cK:mG t E=some v:=by exact rfl)(ag:mG u E=some x:=by exact rfl):hx P f (an rC) n E (.code .ret::k) w:=cM bD ow cK ag (an.mk fo)
end
theorem Hl{α:Type}[BEq α][LawfulBEq α]{a b:α}(h:true=!(a==b)):a≠b:=λe=>by subst e;simp at h
theorem Hm{α:Type}[BEq α][LawfulBEq α]{a b:α}(h:false=!(a==b)):a=b:=by
 cases ab:a==b with
 | true=>exact eq_of_beq ab
 | false=>rw[ab] at h;cases h
end Go.aG
namespace Go.aG
open Go Go.WideShapes Go.ChangeShapes Go.RowKit
section
variable {H:Type} {enc:TypeId×Value->H} {P:Program} {W:World}
def yA(P:Program)(t:TypeId){α:Type}(xn:α->List Value)(ok:α->Prop):Prop:=
 ∀{H:Type} {enc:TypeId×Value->H} {W:World} {base:Nat} {spare:Nat->Bool} {held:Bool} (fuel:Nat) (cs:List Value) (x:DataW H×List MemPlace),DataW.trod enc P W base spare held fuel t cs=some x->∃a:α,cs=xn a/\ok a
theorem wf_i64{n:Int}(h:(Lit.int .i64 n).wf=true):b6 n:=by
 simp[Lit.wf,IntKind.min,IntKind.max,IntKind.signed,IntKind.bits] at h;unfold b6;omega
theorem nB{t:TypeId}(h:P.underlying t=some (.int .i64)):yA P t encI b6:=λfuel cs x a_=>by
 obtain⟨n,rfl,_,hw⟩:=DataW.trod_int h a_
 exact⟨n,rfl,wf_i64 hw⟩
theorem Hn{t:TypeId}(h:P.underlying t=some .string):yA P t cx (λs=>s.length<=9223372036854775807):=λfuel cs x a_=>by
 obtain⟨s,rfl,_,hw⟩:=DataW.trod_string h a_
 exact⟨s.data.toList,by rw[cx,<-aby],hw⟩
def LC(b:Bool):List Value:=[.bool b]
theorem abR{t:TypeId}(h:P.underlying t=some .bool):yA P t LC (λ_=>True):=λfuel cs x a_=>by
 obtain⟨b,rfl,_⟩:=DataW.trod_bool h a_
 exact⟨b,rfl,trivial⟩
theorem El{t:TypeId}{lr:Array Field}(hu:P.underlying t=some (.struct lr)){base:Nat}{spare:Nat->Bool}{held:Bool}{fuel:Nat}{cs:List Value}{x:DataW H×List MemPlace}(h:DataW.trod enc P W base spare held fuel t cs=some x):
 ∃n,cs.length=P.cellsOf t/\∀(i:Nat) (f:Field) (Ho off k:Nat),lr[i]?=some f->f.type=Ho->f.offset=off->P.cellsOf Ho=k->∃y,DataW.trod enc P W base spare held n Ho ((cs.drop off).take k)=some y:=by
 obtain⟨xs,n,_,ag,bl,hlen,bD⟩:=DataW.trod_struct hu h;refine⟨n,bl,λi f Ho off k ar fU je tN=>?_⟩;subst fU je tN;have hP:i<lr.size:=(Array.getElem?_eq_some_iff.1 ar).1;exact⟨xs[i]'aa,by rw[bD i f ar];simp⟩
theorem abS{base:Nat}{a:Addr}{n:Nat}{cs:List Value}(h:W.cells? base a n=some cs)(aR:0<n):∃b off,a=⟨b,off,none⟩/\b<W.heap.size/\cs.length=n/\Row W b off cs:=by
 obtain⟨_,hQ,m'⟩:=World.cells?_some h;have bK:=m' 0 aR;have Em:cs[0]?=some (cs[0]'aa):=List.getElem?_eq_getElem aa;rw[Em] at bK;have j5:a.add 0=a:=(by unfold Addr.add;simp);rw[j5] at bK
 have abT:a.spot=none:=by
  unfold World.cell? at bK
  cases hF:W.heap[a.block]? with
  | none=>rw[hF] at bK;cases bK
  | some Ls =>
   rw[hF] at bK
   cases Ls<;>simp only[reduceCtorEq] at bK
   cases aT:a.spot with
   | none=>rfl
   | some _=>rw[aT] at bK;simp at bK
 obtain⟨b,off,sp⟩:=a;subst abT;refine⟨b,off,rfl,World.block_lt_of_cell? W _ bK,hQ,λi v cK=>?_⟩;have ar:i<n:=(by rw[<-hQ];exact(List.getElem?_eq_some_iff.1 cK).1);have:=m' i ar;rw[add_lit,cK] at this;exact this
theorem LD {t e : TypeId} {α : Type} {xn : α → List Value} {ok : α → Prop} (bD : yA P e xn ok) (a_ : P.underlying t = some (.slice e)) {sz : Nat} (hC : P.cellsOf e = sz) (bK : 0 < sz) (dN : ∀ x, (xn x).length = sz)
    {spare : Nat → Bool} {held : Bool} {fuel : Nat} {cs : List Value} {x : DataW H × List MemPlace} (h : DataW.trod enc P W 0 spare held fuel t cs = some x) :
    ∃ (v : Value) (l : List α), cs = [v] ∧ aq xn W (dq 0 W.heap.size) v l ∧ ∀ a ∈ l, ok a := by
  rcases Deep.open_slice a_ h with ⟨rfl, _⟩ | ⟨a, len, cap, m, n, D, arn, rfl, _, hle, tK, hm, _, ar⟩
  · exact ⟨_, [], rfl, aq.nil, by simp⟩
  · have abU : len ≤ m := by rw [hm]; split <;> omega
    have key : ∀ i : Nat, i < len → ∃ y : α, ok y ∧ ∃ b off, a.add (i * sz) = ⟨b, off, none⟩ ∧ b < W.heap.size ∧ Row W b off (xn y) := fun i na => by
      obtain ⟨cs', al, abV⟩ := ar i aa
      rw [hC] at al
      obtain ⟨b, off, ay, ab, hQ, a'⟩ := abS al bK
      obtain ⟨y, rfl, aE⟩ := bD _ _ _ abV
      exact ⟨y, aE, b, off, ay, ab, a'⟩
    by_cases tL : len = 0
    · subst tL;exact ⟨_, [], rfl, ⟨some a, cap, rfl, Nat.zero_le _, tK, .inl rfl⟩, by simp⟩
    · -- abK list
      have abW : ∃ l : List α, l.length = len ∧ ∀ i (ar : i < l.length), ok l[i] ∧ ∃ b off, a.add (i * sz) = ⟨b, off, none⟩ ∧ b < W.heap.size ∧ Row W b off (xn l[i]) := by
        have gen : ∀ n : Nat, n ≤ len → ∃ l : List α, l.length = n ∧ ∀ i (ar : i < l.length), ok l[i] ∧ ∃ b off, a.add (i * sz) = ⟨b, off, none⟩ ∧ b < W.heap.size ∧ Row W b off (xn l[i]) := by
         intro n aR
         induction n with
         | zero => exact ⟨[], rfl, fun i ar => by simp at ar⟩
         | succ k cc =>
          obtain ⟨l, bl, fW⟩ := cc aa
          obtain ⟨y, aE, a'⟩ := key k aa
          refine ⟨l ++ [y], by simp [bl], fun i ar => ?_⟩
          rcases Nat.lt_or_ge i l.length with gL | gL
          · rw [List.getElem_append_left gL]; exact fW i gL
          · have : i = l.length := by simp at ar; omega
            subst this
            rw [List.getElem_append_right (Nat.le_refl _)]
            simp only [Nat.sub_self, List.getElem_cons_zero, bl]
            exact ⟨aE, a'⟩
        exact gen len (Nat.le_refl _)
      obtain ⟨l, bl, fW⟩ := abW;obtain ⟨_, b, off, ay, ab, _⟩ := fW 0 aa;have abX : a = ⟨b, off, none⟩ :=(by rw [← ay]; unfold Addr.add; simp);subst abX;refine ⟨_, l, rfl, ⟨_, cap, by rw [bl], by omega, tK, .inr ⟨b, off, rfl, ⟨Nat.zero_le _, ab⟩, fun j v cK => ?_⟩⟩, fun y aE => ?_⟩
      · have tJ := rA dN l;have bo : j < l.length * sz :=(by rw [← tJ]; exact (List.getElem?_eq_some_iff.1 cK).1);have hdiv : j / sz < l.length := Nat.div_lt_of_lt_mul (by rw [Nat.mul_comm]; exact bo);obtain ⟨_, sf, RU, LF, yB, LG⟩ := fW (j / sz) hdiv;rw [add_lit] at LF;simp only [Addr.mk.injEq, and_true] at LF;obtain ⟨rfl, rfl⟩ := LF;have Hp := (Hi dN l (j / sz) hdiv).1;have abY : j % sz < sz := Nat.mod_lt _ bK;have RV : j / sz * sz + j % sz = j := Nat.div_add_mod' j sz
        have abZ : (xn l[j / sz])[j % sz]? = some v := by
          rw [← Hp, List.getElem?_take, if_pos abY, List.getElem?_drop, RV]; exact cK
        have := LG (j % sz) v abZ;rw [Nat.add_assoc, RV] at this;exact this
      · obtain ⟨i, uS, rfl⟩ := List.getElem_of_mem aE;exact (fW i uS).1
def Hq(P:Program)(mm:List TypeId):Bool:=mm.all λt=>P.readableRec t && decide (t<P.types.size)
theorem RW(bl:laidOutB P=true){Ag:World}(Ah:Ext W Ag):∀(mm:List TypeId) (vs:List Value) (rB:List (DataW H)) (hr:List MemPlace),Hq P mm=true ->
 DataW.TrodAll enc P W 0 (λ_=>true) true mm vs rB hr->DataW.TrodAll enc P Ag 0 (λb=>decide (b<W.heap.size)) true mm vs rB hr
 | [],[],[],_,_,h=>h
 | t::mm,v::vs,d::rB,hr,a',h=>by
  obtain⟨p,q,h1,ah,aB⟩:=h
  simp only[Hq,List.all_cons,Bool.and_eq_true,decide_eq_true_eq] at a'
  have hP:∀x∈p,x.block<W.heap.size:=by
   obtain⟨fuel,bD⟩:=h1
   exact λx ag=>DataW.trod_lt _ _ _ _ bD x ag
  exact⟨p,q,Below.trod bl a'.1.1 a'.1.2 h1 Ah.below hP,RW bl Ah mm vs rB q (by simpa[Hq] using a'.2) ah,aB⟩
 | [],_::_,_,_,_,h=>h.elim
 | [],[],_::_,_,_,h=>h.elim
 | _::_,[],_,_,_,h=>h.elim
 | _::_,_::_,[],_,_,h=>h.elim
theorem ab0{f:Func}{s:ChangeSpec}{args:Array Value}{rB gs:List (DataW H)}{before:List MemPlace}{Ag:World}{tb:TypeId}(bl:laidOutB P=true)(a':Hq P f.params.toList=true)
 (ow:f.resultTypes=#[tb]) (ab:P.underlying tb=some .bool) (RX:s.vars=[]) (n9:DataW.Whole enc P f.params.toList s.vars false W args.toList rB gs before) (Ah:Ext W Ag)
 (LH:s.fn H (rB++gs)={ results:=[.lit (.bool true)],args:=rB }):ChangeSpec.post enc P f s false true false false W args (.bool true) Ag:=by
 have LI:=n9;obtain⟨p,q,bf,Ai,rfl,Hr,gG⟩:=n9
 have dM:gs=[]/\q=[]:=by
  rw[RX] at Ai
  cases gs with
  | nil=>exact⟨rfl,Ai⟩
  | cons _ _=>exact Ai.elim
 obtain⟨rfl,rfl⟩:=dM;refine⟨rB,[],p++[],[],p,[],LI,?_,?_,?_,Ah.below.frame _,λh=>by cases h⟩
 . rw[LH,ow];exact trodAll_cons_mk (shut_bool ab true) trodAll_mk0
 . rw[LH];exact RW bl Ah _ _ _ _ a' bf
 . rw[RX,LH];rfl
end
end Go.aG
namespace Go.ak
open Go.aG
def Ca:Nat->aj->List Nat
 | 0,_=>[]
 | n+1,s=>match s with
  | []=>[]
  | a::r=>(dec (a::r)).1::Ca n ((a::r).drop (dec (a::r)).2)
def hg(s:aj):List Nat:=Ca s.length s
theorem RY:∀(n m:Nat) (s:aj),s.length<=n->s.length<=m->Ca n s=Ca m s
 | 0,0,_,_,_=>rfl
 | 0,m+1,s,h,_=>by
  have:s=[]:=List.eq_nil_of_length_eq_zero aa
  subst this;rfl
 | n+1,0,s,_,h=>by
  have:s=[]:=List.eq_nil_of_length_eq_zero aa
  subst this;rfl
 | n+1,m+1,[],_,_=>rfl
 | n+1,m+1,a::r,h1,ah=>by
  simp only[Ca]
  have hp:=yz (a::r) dh
  rw[RY n m _ (by simp only[List.length_drop,List.length_cons] at *;omega) (by simp only[List.length_drop,List.length_cons] at *;omega)]
theorem xo:hg []=[]:=rfl
theorem xp{s:aj}(h:s≠[]):hg s=(dec s).1::hg (s.drop (dec s).2):=by
 cases s with
 | nil=>exact absurd rfl h
 | cons a r =>
  have hp:=yz (a::r) dh;show(dec (a::r)).1::Ca r.length ((a::r).drop (dec (a::r)).2)=_;rw[RY r.length ((a::r).drop (dec (a::r)).2).length _ (by simp only[List.length_drop,List.length_cons];omega) (Nat.le_refl _)];rfl
theorem RZ(s:aj):(hg s).length<=s.length:=by
 have:∀n (s:aj),s.length<=n->(hg s).length<=s.length:=by
  intro n
  induction n with
  | zero=>intro s h;have:s=[]:=List.eq_nil_of_length_eq_zero aa;subst this;simp[xo]
  | succ n cc =>
   intro s h
   by_cases aT:s=[]
   . subst aT;simp[xo]
   . rw[xp aT]
     have hp:=yz s aT
     have bl:=B_ s aT
     have:=cc (s.drop (dec s).2) (by rw[List.length_drop];omega)
     rw[List.length_drop] at this
     rw[List.length_cons];omega
 exact this _ s (Nat.le_refl _)
structure Scan(s:aj)(p:Nat)(pre:List Nat):Prop where
 all:hg s=pre++hg (s.drop p)
 le:p<=s.length
 len:pre.length<=p
theorem Scan.start(s:aj):Scan s 0 []:=⟨by simp,Nat.zero_le _,by simp⟩
theorem Scan.next{s:aj}{p:Nat}{pre:List Nat}(h:Scan s p pre)(he:s.drop p≠[]):Scan s (p+(dec (s.drop p)).2) (pre++[(dec (s.drop p)).1]):=by
 have bl:=B_ _ he;have hp:=yz _ he;rw[List.length_drop] at bl;have:=h.le
 have hP:p<s.length:=by
  rcases Nat.lt_or_ge p s.length with h|h
  . exact h
  . exact absurd (List.drop_of_length_le h) he
 refine⟨?_,by omega,by have:=h.len;simp;omega⟩;rw[h.all,xp he,List.drop_drop];simp
theorem Scan.done{s:aj}{p:Nat}{pre:List Nat}(h:Scan s p pre)(he:s.drop p=[]):hg s=pre:=by
 rw[h.all,he,xo,List.append_nil]
theorem Scan.mem{s:aj}{p:Nat}{pre:List Nat}(h:Scan s p pre)(he:s.drop p≠[]):(dec (s.drop p)).1∈hg s:=by
 rw[h.all,xp he];simp
def iL(s:aj):Int:=if 65533∈hg s then -1 else((hg s).length:Int)
def word(s:aj):Bool:=decide (iL s>=1) && decide (iL s<=12)
def asked(s:aj):Bool:=decide (iL s>=0) && decide (iL s<=16)
structure sW(s:aj)(p k:Nat):Prop where
 ex:∃pre,Scan s p pre/\pre.length=k/\65533∉pre
 le:p<=s.length
 oV:k<=p
theorem sW.start(s:aj):sW s 0 0:=⟨⟨[],Scan.start s,rfl,by simp⟩,Nat.zero_le _,Nat.le_refl _⟩
theorem sW.v7{s:aj}{p k:Nat}(h:sW s p k)(he:s.drop p≠[])(hd:((dec (s.drop p)).1:Int)=65533):(-1:Int)=iL s:=by
 obtain⟨pre,h1,ah,aB⟩:=h.ex;have hm:=h1.mem he;have:(dec (s.drop p)).1=65533:=by omega
 rw[this] at hm;simp[iL,hm]
theorem sW.next{s:aj}{p k:Nat}(h:sW s p k)(he:s.drop p≠[])(hd:((dec (s.drop p)).1:Int)≠65533):sW s (p+(dec (s.drop p)).2) (k+1):=by
 obtain⟨pre,h1,ah,aB⟩:=h.ex;have aR:=h1.next he;refine⟨⟨_,aR,by simp[ah],?_⟩,aR.le,by have:=aR.len;simp[ah] at this;exact this⟩;simp only[List.mem_append,List.mem_singleton,not_or];exact⟨aB,λe=>hd aa⟩
theorem sW.fin{s:aj}{p k:Nat}(h:sW s p k)(he:s.drop p=[]):(k:Int)=iL s:=by
 obtain⟨pre,h1,ah,aB⟩:=h.ex;have:=h1.done he;simp[iL,this,aB,ah]
theorem sW.lt{s:aj}{p k:Nat}(h:sW s p k)(he:s.drop p≠[]):k<s.length:=by
 have:=h.oV
 have:p<s.length:=by
  rcases Nat.lt_or_ge p s.length with h|h
  . exact h
  . exact absurd (List.drop_of_length_le h) he
 omega
theorem ab1(s:aj):-1<=iL s:=by unfold iL;split<;>omega
theorem ab2(s:aj):iL s<=s.length:=by
 unfold iL;have:=RZ s;split<;>omega
def rising:List aj->Bool
 | []=>true
 | [_]=>true
 | a::b::r=>decide (Lib.compareBytes a b<0) && rising (b::r)
def e6(l:List aj):Int:=if l.length>60 then 3 else if l.all word=true then(if rising l=true then 0 else 7) else 6
def v8(l:List aj):Prop:=∀s∈l,s.length<=9223372036854775807
theorem v8.at{l:List aj}(h:v8 l){k:Nat}{x:aj}(ag:l[k]?=some x):x.length<=9223372036854775807:=h x (List.mem_of_getElem? ag)
theorem Aj{α:Type}{p:α->Bool}{l:List α}{k:Nat}{x:α}(h:(l.take k).all p=true)(ag:l[k]?=some x)(hp:p x=true):(l.take (k+1)).all p=true:=by
 rw[List.take_add_one,ag];simp_all
theorem Hs{α:Type}{p:α->Bool}{l:List α}{k:Nat}(h:(l.take k).all p=true)(hk:l.length<=k):l.all p=true:=by
 rwa[List.take_of_length_le hk] at h
theorem LJ{α:Type}{p:α->Bool}{l:List α}{k:Nat}{x:α}(ag:l[k]?=some x)(hp:p x=false):l.all p=false:=by
 rw[List.all_eq_false];exact⟨x,List.mem_of_getElem? ag,by simp[hp]⟩
theorem R0:∀{l:List aj} {k:Nat} {x y:aj},rising (l.take (k+1))=true->l[k]?=some x->l[k+1]?=some y->Lib.compareBytes x y<0->rising (l.take (k+2))=true
 | [],k,x,y,_,ag,_,_=>by simp at ag
 | a::l,0,x,y,h,ag,aE,al=>by
  cases l with
  | nil=>simp at aE
  | cons b l =>
   simp only[List.getElem?_cons_zero,Option.some.injEq] at ag
   simp only[Nat.zero_add,List.getElem?_cons_succ,List.getElem?_cons_zero,Option.some.injEq] at aE
   subst ag;subst aE
   simp[rising,al]
 | a::l,k+1,x,y,h,ag,aE,al=>by
  cases l with
  | nil=>simp at ag
  | cons b l =>
   simp only[List.take_succ_cons,rising,Bool.and_eq_true,decide_eq_true_eq] at h ⊢
   refine⟨h.1,?_⟩
   have:=R0 (l:=b::l) (k:=k) (x:=x) (y:=y) (by simpa using h.2) uU (by simpa using aE) al
   simpa using this
theorem R1:∀{l:List aj} {k:Nat} {x y:aj},l[k]?=some x->l[k+1]?=some y->¬ Lib.compareBytes x y<0->rising l=false
 | [],k,x,y,ag,_,_=>by simp at ag
 | a::l,0,x,y,ag,aE,al=>by
  cases l with
  | nil=>simp at aE
  | cons b l =>
   simp only[List.getElem?_cons_zero,Option.some.injEq] at ag
   simp only[Nat.zero_add,List.getElem?_cons_succ,List.getElem?_cons_zero,Option.some.injEq] at aE
   subst ag;subst aE
   simp[rising,al]
 | a::l,k+1,x,y,ag,aE,al=>by
  cases l with
  | nil=>simp at ag
  | cons b l =>
   have:=R1 (l:=b::l) (k:=k) (x:=x) (y:=y) uU (by simpa using aE) al
   simp[rising,this]
theorem R2(l:List aj):rising (l.take 1)=true:=by
 cases l<;>rfl
theorem R3{l:List aj}{k:Nat}{x:aj}(Cb:¬ ((l.length:Int)>60))(ag:l[k]?=some x)(hw:word x=false):(6:Int)=e6 l:=by
 unfold e6;rw[if_neg aa,if_neg (by rw[LJ ag hw];simp)]
theorem ab3{l:List aj}{k:Nat}{x y:aj}(Cb:¬ ((l.length:Int)>60))(ay:l.all word=true)(ag:l[k]?=some x)(aE:l[k+1]?=some y)(al:¬ Lib.compareBytes x y<0):(7:Int)=e6 l:=by
 unfold e6;rw[if_neg aa,if_pos ay,if_neg (by rw[R1 ag aE al];simp)]
theorem R4{l:List aj}{k:Nat}(Cb:¬ ((l.length:Int)>60))(ay:l.all word=true)(h:rising (l.take k)=true)(hk:l.length<=k):(0:Int)=e6 l:=by
 rw[List.take_of_length_le hk] at h;unfold e6;rw[if_neg aa,if_pos ay,if_pos h]
theorem dec_lt{s:aj}{p:Nat}(h:s.drop p≠[]):1<=(dec (s.drop p)).2/\p+(dec (s.drop p)).2<=s.length:=by
 have h1:=yz _ h;have ah:=B_ _ h;rw[List.length_drop] at ah
 have:p<s.length:=by
  rcases Nat.lt_or_ge p s.length with gL|gL
  . exact gL
  . exact absurd (List.drop_of_length_le gL) h
 omega
theorem Ht{s:aj}(h:s.length<=9223372036854775807):b6 (iL s):=by
 have h1:=ab1 s;have ah:=ab2 s;unfold b6;omega
theorem R5:∀(a b:aj),-1<=Lib.compareBytes a b/\Lib.compareBytes a b<=1
 | [],[]=>by simp[Lib.compareBytes]
 | [],_::_=>by simp[Lib.compareBytes]
 | _::_,[]=>by simp[Lib.compareBytes]
 | a::x,b::y=>by
  unfold Lib.compareBytes
  split
  . omega
  . split
    . omega
    . exact R5 x y
theorem uV(a b:aj):b6 (Lib.compareBytes a b):=by have:=R5 a b;unfold b6;omega
theorem R6{l:List aj}{j:Nat}{x y:aj}(h:rising (l.take j)=true)(bo:1<=j)(ag:l[j-1]?=some x)(aE:l[j]?=some y)(al:Lib.compareBytes x y<0):rising (l.take (j+1))=true:=by
 obtain⟨k,rfl⟩:∃k,j=k+1:=⟨j-1,by omega⟩;exact R0 h uU aE al
theorem R7{l:List aj}(h:(l.length:Int)>60):(3:Int)=e6 l:=by
 unfold e6;rw[if_pos aa]
theorem R8{l:List aj}{j:Nat}{x y:aj}(Cb:¬ ((l.length:Int)>60))(ay:l.all word=true)(bo:1<=j)(ag:l[j-1]?=some x)(aE:l[j]?=some y)(al:¬ Lib.compareBytes x y<0):(7:Int)=e6 l:=by
 obtain⟨k,rfl⟩:∃k,j=k+1:=⟨j-1,by omega⟩;exact ab3 Cb ay uU aE al
theorem yC(l:List aj):0<=e6 l/\e6 l<=7:=by
 unfold e6;repeat' split
 all_goals omega
def within(x least nb:Int):Bool:=decide (x>=least) && decide (x<=nb)
structure Key where
 len:Int
 text:aj
 deriving DecidableEq,Repr
def fZ(k:Key):List Value:=[.int .i64 k.len,aD k.text]
theorem tO(x:Key):(fZ x).length=2:=rfl
structure cG where
 words:List aj
 cuts:List Key
 workers:Int
 lL:Int
 sX:Int
 batch:Int
 sY:Int
 sZ:Int
 first:Int
 cap:Int
 s0:Int
 s3:Int
 deriving DecidableEq
structure cG.Ok(c:cG):Prop where
 workers:b6 c.workers
 lL:b6 c.lL
 sX:b6 c.sX
 batch:b6 c.batch
 sY:b6 c.sY
 sZ:b6 c.sZ
 first:b6 c.first
 cap:b6 c.cap
 s0:b6 c.s0
 s3:b6 c.s3
 words:v8 c.words
 cuts:∀k∈c.cuts,b6 k.len/\k.text.length<=9223372036854775807
def po(x y:Int):Int:=if x<y then -1 else if x>y then 1 else 0
def oz:List Int->Int
 | []=>0
 | x::r=>if x≠0 then x else oz r
theorem ab4{l:List Int}{k:Nat}{x:Int}(h:oz l=oz (l.drop k))(ag:l[k]?=some x)(bK:x=0):oz l=oz (l.drop (k+1)):=by
 have hk:k<l.length:=(List.getElem?_eq_some_iff.1 ag).1;have e:l[k]=x:=(List.getElem?_eq_some_iff.1 ag).2;rw[h,List.drop_eq_getElem_cons hk,e];simp[oz,bK]
theorem R9{l:List Int}{k:Nat}{x:Int}(h:oz l=oz (l.drop k))(ag:l[k]?=some x)(bK:x≠0):x=oz l:=by
 have hk:k<l.length:=(List.getElem?_eq_some_iff.1 ag).1;have e:l[k]=x:=(List.getElem?_eq_some_iff.1 ag).2;rw[h,List.drop_eq_getElem_cons hk,e];simp[oz,bK]
theorem R_{l:List Int}{k:Nat}(h:oz l=oz (l.drop k))(hk:l.length<=k):(0:Int)=oz l:=by
 rw[h,List.drop_of_length_le hk];rfl
def Hu(a b:Key):Int:=oz [po a.len b.len,Lib.compareBytes a.text b.text]
def oW(a b:Key):Bool:=decide (Hu a b<0)
def v_(c:Key):Bool:=!(decide (c.len<1) || decide (c.len>12) || decide (iL c.text<0) || decide (iL c.text>12))
def rE:List Key->Bool
 | []=>true
 | [_]=>true
 | a::b::r=>oW a b && rE (b::r)
def tP(l:List Key):Int:=if l.length>5 then 3 else if l.all v_=true then(if rE l=true then 0 else 7) else 2
def LK(l:List Key)(k:Key):Nat:=(l.filter λc=>!oW k c).length
def ofM(cuts:List Key)(w:aj):Int:=if word w then(LK cuts ⟨iL w,w⟩:Int) else -1
def tQ(cuts:List Key)(shard:Int)(w:aj):Bool:=decide (ofM cuts w>=0) && (ofM cuts w==shard)
theorem R'{cuts:List Key}{shard:Int}{w:aj}(h1:0<=ofM cuts w)(ah:ofM cuts w=shard):tQ cuts shard w=true:=by simp[tQ,<-ah,h1]
theorem Sa{cuts:List Key}{shard:Int}{w:aj}(h1:¬ 0<=ofM cuts w):tQ cuts shard w=false:=by simp[tQ,h1]
theorem Sb{cuts:List Key}{shard:Int}{w:aj}(ah:ofM cuts w≠shard):tQ cuts shard w=false:=by simp[tQ,ah]
def rF(cuts:List Key)(words:List aj)(shard:Int):List aj:=words.filter (tQ cuts shard)
theorem Sc(l:List Key):rE (l.take 1)=true:=by
 cases l<;>rfl
theorem Sd:∀{l:List Key} {k:Nat} {x y:Key},rE (l.take (k+1))=true->l[k]?=some x->l[k+1]?=some y->oW x y=true->rE (l.take (k+2))=true
 | [],k,x,y,_,ag,_,_=>by simp at ag
 | a::l,0,x,y,h,ag,aE,al=>by
  cases l with
  | nil=>simp at aE
  | cons b l =>
   simp only[List.getElem?_cons_zero,Option.some.injEq] at ag
   simp only[Nat.zero_add,List.getElem?_cons_succ,List.getElem?_cons_zero,Option.some.injEq] at aE
   subst ag;subst aE
   simp[rE,al]
 | a::l,k+1,x,y,h,ag,aE,al=>by
  cases l with
  | nil=>simp at ag
  | cons b l =>
   simp only[List.take_succ_cons,rE,Bool.and_eq_true] at h ⊢
   refine⟨h.1,?_⟩
   have:=Sd (l:=b::l) (k:=k) (x:=x) (y:=y) (by simpa using h.2) uU (by simpa using aE) al
   simpa using this
theorem Se:∀{l:List Key} {k:Nat} {x y:Key},l[k]?=some x->l[k+1]?=some y->oW x y=false->rE l=false
 | [],k,x,y,ag,_,_=>by simp at ag
 | a::l,0,x,y,ag,aE,al=>by
  cases l with
  | nil=>simp at aE
  | cons b l =>
   simp only[List.getElem?_cons_zero,Option.some.injEq] at ag
   simp only[Nat.zero_add,List.getElem?_cons_succ,List.getElem?_cons_zero,Option.some.injEq] at aE
   subst ag;subst aE
   simp[rE,al]
 | a::l,k+1,x,y,ag,aE,al=>by
  cases l with
  | nil=>simp at ag
  | cons b l =>
   have:=Se (l:=b::l) (k:=k) (x:=x) (y:=y) uU (by simpa using aE) al
   simp[rE,this]
theorem Sf{l:List Key}{j:Nat}{x y:Key}(h:rE (l.take j)=true)(bo:1<=j)(ag:l[j-1]?=some x)(aE:l[j]?=some y)(al:oW x y=true):rE (l.take (j+1))=true:=by
 obtain⟨k,rfl⟩:∃k,j=k+1:=⟨j-1,by omega⟩;exact Sd h uU aE al
theorem Sg{l:List Key}(h:(l.length:Int)>5):(3:Int)=tP l:=by
 unfold tP;rw[if_pos aa]
theorem Sh{l:List Key}{k:Nat}{x:Key}(c_:¬ ((l.length:Int)>5))(ag:l[k]?=some x)(hw:v_ x=false):(2:Int)=tP l:=by
 unfold tP;rw[if_neg aa,if_neg (by rw[LJ ag hw];simp)]
theorem Si{l:List Key}{j:Nat}{x y:Key}(c_:¬ ((l.length:Int)>5))(ay:l.all v_=true)(bo:1<=j)(ag:l[j-1]?=some x)(aE:l[j]?=some y)(al:oW x y=false):(7:Int)=tP l:=by
 obtain⟨k,rfl⟩:∃k,j=k+1:=⟨j-1,by omega⟩;unfold tP;rw[if_neg aa,if_pos ay,if_neg (by rw[Se uU aE al];simp)]
theorem Sj{l:List Key}{k:Nat}(c_:¬ ((l.length:Int)>5))(ay:l.all v_=true)(h:rE (l.take k)=true)(hk:l.length<=k):(0:Int)=tP l:=by
 rw[List.take_of_length_le hk] at h;unfold tP;rw[if_neg aa,if_pos ay,if_pos h]
theorem LL{α:Type}{p:α->Bool}{l:List α}{k:Nat}{x:α}(ag:l[k]?=some x)(hp:p x=true):(l.take (k+1)).filter p=(l.take k).filter p++[x]:=by
 rw[List.take_add_one,ag];simp[List.filter_append,hp]
theorem En{α:Type}{p:α->Bool}{l:List α}{k:Nat}{x:α}(ag:l[k]?=some x)(hp:p x=false):(l.take (k+1)).filter p=(l.take k).filter p:=by
 rw[List.take_add_one,ag];simp[List.filter_append,hp]
theorem LM{α:Type}{p:α->Bool}{l:List α}{k:Nat}(h:l.length<=k):(l.take k).filter p=l.filter p:=by
 rw[List.take_of_length_le h]
def Eo(c:cG):Bool:=within c.workers 1 5 && within c.lL 1 (min 3 c.workers)
def Hv(c:cG):Bool:=within c.sX 1 4 && within c.batch 1 5 && within c.s3 8 64
def Hw(c:cG):Bool:=within c.sY 1 1000 && within c.sZ 1 1000 && within c.first 1 10 && within c.cap c.first 50 && within c.s0 0 10
def may(c:cG):Bool:=(e6 c.words==0) && (tP c.cuts==0) && (Eo c && Hv c && Hw c)
def jf(c:cG):Nat:=if may c=true then c.cuts.length+1 else 0
def jV(c:cG)(shard:Int):List Int:=if within shard 0 ((jf c:Int)-1)=true then(List.range c.lL.toNat).map (λj:Nat=>1+(shard+(j:Int)) % c.workers) else[]
def cn(c:cG)(worker:Int):List Int:=((List.range (jf c)).filter (λs:Nat=>(jV c (s:Int)).contains worker)).map (λs:Nat=>(s:Int))
def tR(c:cG)(shard:Int):List aj:=rF c.cuts c.words shard
def qW(l:List aj):Bool:=decide (l.length>80) || l.any λs=>decide (s.length>100)
def sg(c:cG):Bool:=decide (c.cuts.length>10) || (c.cuts.any λk=>decide (k.text.length>100)) || qW c.words
def Cc(x n:Int):Int:=(IntKind.u64.wrap x) % n
theorem Sk{α:Type}{p:α->Bool}{l:List α}{k:Nat}{x:α}(h:(l.take k).any p=false)(ag:l[k]?=some x)(hp:p x=false):(l.take (k+1)).any p=false:=by
 rw[List.take_add_one,ag];simp_all
theorem Sl{α:Type}{p:α->Bool}{l:List α}{k:Nat}(h:(l.take k).any p=false)(hk:l.length<=k):l.any p=false:=by
 rwa[List.take_of_length_le hk] at h
theorem Sm{α:Type}{p:α->Bool}{l:List α}{k:Nat}{x:α}(ag:l[k]?=some x)(hp:p x=true):l.any p=true:=
 List.any_eq_true.2 ⟨x,List.mem_of_getElem? ag,hp⟩
theorem Sn{α:Type}{a b:List α}{k:Nat}{x y:α}(h:a.take k=b.take k)(ag:a[k]?=some x)(aE:b[k]?=some y)(e:x=y):a.take (k+1)=b.take (k+1):=by
 rw[List.take_add_one,List.take_add_one,ag,aE,h,e]
theorem Ep{α:Type}{a b:List α}{k:Nat}(h:a.take k=b.take k)(hk:a.length<=k)(bl:a.length=b.length):a=b:=by
 rwa[List.take_of_length_le hk,List.take_of_length_le aa] at h
theorem Cd{α:Type}{a b:List α}{k:Nat}{x y:α}(ag:a[k]?=some x)(aE:b[k]?=some y)(e:x≠y):a≠b:=λh=>by
 subst h;rw[ag] at aE;exact e (by simpa using aE)
def pZ:List Int->Int->Int
 | [],_=>-1
 | x::r,v=>if v=x then 0 else(if pZ r v<0 then -1 else pZ r v+1)
theorem ab5:∀(l:List Int) (v:Int),-1<=pZ l v
 | [],_=>by simp[pZ]
 | x::r,v=>by unfold pZ;have:=ab5 r v;split<;>(try split)<;>omega
structure uW(s:List Int)(v:Int)(k:Nat):Prop where
 none:∀x∈s.take k,v≠x
theorem uW.start(s:List Int)(v:Int):uW s v 0:=⟨by simp⟩
theorem uW.next{s:List Int}{v:Int}{k:Nat}{x:Int}(h:uW s v k)(ag:s[k]?=some x)(dL:v≠x):uW s v (k+1):=by
 refine⟨λy aE=>?_⟩;rw[List.take_add_one,ag] at aE;simp only[Option.toList_some,List.mem_append,List.mem_singleton] at aE;rcases aE with aE|rfl
 . exact h.none y aE
 . exact dL
theorem Sp:∀(s:List Int) (v:Int) (k:Nat),(∀x∈s.take k,v≠x)->s[k]?=some v->pZ s v=(k:Int)
 | [],_,_,_,h=>by simp at h
 | x::r,v,0,_,h=>by
  simp only[List.getElem?_cons_zero,Option.some.injEq] at h
  simp[pZ,h]
 | x::r,v,k+1,aR,h=>by
  have h1:v≠x:=aR x dh
  have cc:=Sp r v k (λy aE=>aR y (by simp[aE])) (by simpa using h)
  rw[pZ,if_neg h1,cc,if_neg aa];rfl
theorem Sq:∀(s:List Int) (v:Int),(∀x∈s,v≠x)->pZ s v=-1
 | [],_,_=>rfl
 | x::r,v,aR=>by
  rw[pZ,if_neg (aR x dh),Sq r v (λy aE=>aR y (by simp[aE])),if_pos aa]
theorem uW.found{s:List Int}{v:Int}{k:Nat}{x:Int}(h:uW s v k)(ag:s[k]?=some x)(he:v=x):(k:Int)=pZ s v:=by
 subst he;exact(Sp s v k h.none ag).symm
theorem uW.fin{s:List Int}{v:Int}{k:Nat}(h:uW s v k)(hk:s.length<=k):(-1:Int)=pZ s v:=by
 have:=h.none;rw[List.take_of_length_le hk] at this;exact(Sq s v this).symm
theorem Sr:∀(s:List Int) (v:Int),s.contains v=decide (pZ s v>=0)
 | [],_=>by simp[pZ]
 | x::r,v=>by
  have cc:=Sr r v
  by_cases h:v=x
  . subst h;simp[pZ]
  . have ab:(v==x)=false:=by simpa using h
    rw[List.contains_cons,ab,Bool.false_or,cc,pZ,if_neg h]
    by_cases ah:pZ r v<0
    . rw[if_pos ah];simp;omega
    . rw[if_neg ah];simp;omega
theorem Ss{c:cG}(h:may c=true):c.cuts.length<=5:=by
 simp only[may,Bool.and_eq_true,beq_iff_eq] at h;have ah:=h.1.2;unfold tP at ah;by_cases bl:c.cuts.length>5
 . rw[if_pos bl] at ah;omega
 . omega
theorem ab6{c:cG}(h:may c=true):c.words.length<=60:=by
 simp only[may,Bool.and_eq_true,beq_iff_eq] at h;have ah:=h.1.1;unfold e6 at ah;by_cases bl:c.words.length>60
 . rw[if_pos bl] at ah;omega
 . omega
theorem uX(c:cG):jf c<=6:=by
 unfold jf;split
 . rename_i h;have:=Ss h;omega
 . omega
theorem ab7{c:cG}{worker:Int}{k:Nat}{l:List Int}(h:l=((List.range k).filter (λs:Nat=>(jV c (s:Int)).contains worker)).map (λs:Nat=>(s:Int)))(al:(jV c (k:Int)).contains worker=true):
 l++[(k:Int)]=((List.range (k+1)).filter (λs:Nat=>(jV c (s:Int)).contains worker)).map (λs:Nat=>(s:Int)):=by
 rw[h,List.range_succ,List.filter_append,List.map_append,List.filter_cons,if_pos al];rfl
theorem ab8{c:cG}{worker:Int}{k:Nat}{l:List Int}(h:l=((List.range k).filter (λs:Nat=>(jV c (s:Int)).contains worker)).map (λs:Nat=>(s:Int)))(al:(jV c (k:Int)).contains worker=false):
 l=((List.range (k+1)).filter (λs:Nat=>(jV c (s:Int)).contains worker)).map (λs:Nat=>(s:Int)):=by
 rw[h,List.range_succ,List.filter_append,List.map_append,List.filter_cons,if_neg (by rw[al];exact Bool.false_ne_true)];simp
theorem ab9{l:List aj}{k:Nat}{x:aj}(ag:l[k]?=some x)(h:(x.length:Int)>100):true=qW l:=by
 unfold qW;rw[Sm ag (decide_eq_true aa)];simp
theorem aro{l:List aj}{b:Bool}(h:l.length>80)(ab:b=decide ((l.length:Int)>80)):b=qW l:=by
 rw[ab,decide_eq_true aa,qW,decide_eq_true h];rfl
theorem ab_{c:cG}{k:Nat}{x:Key}(ag:c.cuts[k]?=some x)(h:(x.text.length:Int)>100):true=sg c:=by
 unfold sg;rw[Sm ag (decide_eq_true aa)];simp
theorem ab'{c:cG}(h:qW c.words=true):true=sg c:=by unfold sg;rw[h];simp
theorem aca{c:cG}{k:Nat}{b:Bool}(h:(c.cuts.take k).any (λs=>decide (s.text.length>100))=false)(hk:c.cuts.length<=k\/c.cuts.length>10)(hw:qW c.words=false)(ab:b=decide ((c.cuts.length:Int)>10)):b=sg c:=by
 rw[ab];unfold sg;rw[hw];by_cases tS:c.cuts.length>10
 . rw[decide_eq_true tS,decide_eq_true aa];simp
 . rw[decide_eq_false tS,decide_eq_false aa,Sl h aa];simp
theorem Hx(x:Int):0<=IntKind.u64.wrap x/\IntKind.u64.wrap x<=18446744073709551615:=by
 simp only[IntKind.wrap,IntKind.bits,IntKind.signed];simp
 omega
theorem St(x n:Int)(h:1<=n):0<=Cc x n/\Cc x n<n:=⟨Int.emod_nonneg _ aa,Int.emod_lt_of_pos _ aa⟩
theorem n_{x l m:Int}(h:within x l m=true):l<=x/\x<=m:=by
 simp only[within,Bool.and_eq_true,decide_eq_true_eq] at h;omega
theorem p0{x l m:Int}(h:within x l m=false):x<l\/m<x:=by
 simp only[within,Bool.and_eq_false_iff,decide_eq_false_iff_not] at h;omega
theorem Ak{c:cG}(h:may c=true):1<=c.workers/\c.workers<=5/\1<=c.lL/\c.lL<=3/\c.lL<=c.workers/\c.words.length<=60/\c.cuts.length<=5:=by
 have h1:=Ss h;have ah:=ab6 h;simp only[may,Eo,Bool.and_eq_true] at h;have aB:=n_ h.2.1.1.1;have bH:=n_ h.2.1.1.2;omega
theorem Hy{c:cG}(h:0<jf c):may c=true:=by
 unfold jf at h;split at h
 . assumption
 . omega
theorem LN{c:cG}{shard:Int}{j:Nat}{l:List Int}(hw:within shard 0 ((jf c:Int)-1)=true)(ar:l=(List.range j).map (λj:Nat=>1+(shard+(j:Int)) % c.workers))(bo:j=c.lL.toNat):l=jV c shard:=by
 subst bo;rw[ar,jV,if_pos hw]
theorem Hz{c:cG}{shard:Int}(hw:within shard 0 ((jf c:Int)-1)=false):[]=jV c shard:=by
 rw[jV,if_neg (by rw[hw];exact Bool.false_ne_true)]
theorem acb{l:List aj}{k:Nat}{b:Bool}(h:(l.take k).any (λs=>decide (s.length>100))=false)(hk:l.length<=k\/80<l.length)(ab:b=decide ((l.length:Int)>80)):b=qW l:=by
 rw[ab];unfold qW;by_cases si:l.length>80
 . rw[decide_eq_true si,decide_eq_true aa];rfl
 . rw[decide_eq_false si,decide_eq_false aa,Sl h aa];rfl
def cG.okB(c:cG):Bool:=
 decide (b6 c.workers) && decide (b6 c.lL) && decide (b6 c.sX) && decide (b6 c.batch) && decide (b6 c.sY) && decide (b6 c.sZ) && decide (b6 c.first) && decide (b6 c.cap) && decide (b6 c.s0) && decide (b6 c.s3) &&
 (c.words.all λs=>decide (s.length<=9223372036854775807)) && (c.cuts.all λk=>decide (b6 k.len) && decide (k.text.length<=9223372036854775807))
theorem cG.HA{c:cG}(h:c.okB=true):c.Ok:=by
 simp only[cG.okB,Bool.and_eq_true,decide_eq_true_eq,List.all_eq_true] at h;obtain⟨⟨⟨⟨⟨⟨⟨⟨⟨⟨⟨h1,ah⟩,aB⟩,bH⟩,c_⟩,e1⟩,kz⟩,si⟩,uY⟩,tS⟩,acd⟩,ace⟩:=h;exact⟨h1,ah,aB,bH,c_,e1,kz,si,uY,tS,acd,ace⟩
structure Key.Ok(k:Key):Prop where
 len:b6 k.len
 text:k.text.length<=9223372036854775807
theorem head_cons{α:Type}{l:List α}{x:α}(h:l[0]?=some x):l=x::l.drop 1:=by
 cases l with
 | nil=>simp at h
 | cons a l=>simp at h;subst h;rfl
end Go.ak
namespace Go.aG
open Go
def dv(s:aj)(k:Nat):Nat:=(s[k]?.getD 0).toNat
theorem uZ(s:aj)(k:Nat):dv s k<256:=by unfold dv;exact(s[k]?.getD 0).toNat_lt
section
variable {P:Program} {E:Env} {C:World->Prop} {d:Option Tmp} {ty:TypeId} {pos:String} {af:Array Edge} {gd:Option (Nat×Bool)}
theorem bA.n'{s t:TypeId}{x:Operand}{k jy:IntKind}{p:Int}(aT:(P.underlying s).isSome=true)(a_:P.underlying t=some (.int jy))(ag:aO E x=some (.int k p))(hw:jy.wrap p=p):bA P ⟨d,.convert s t x,ty,pos,af,gd⟩ E C (.int jy p):=by
 have h:=bA.tH (P:=P) (E:=E) (C:=C) (d:=d) (ty:=ty) (pos:=pos) (af:=af) (gd:=gd) aT a_ ag;rwa[hw] at h
theorem bA.acf{xt yt:TypeId}{x y:Operand}{k jy:IntKind}{p:Int}(r:Int)(ag:aO E x=some (.int k p))(aE:aO E y=some (.int jy 1))(a':p / 2=r):bA P ⟨d,.binOp .shr xt x y yt,ty,pos,af,gd⟩ E C (.int k r):=λa ay w _=>by
 have e:p.fdiv 2=r:=by rw[<-a'];exact Int.fdiv_eq_ediv_of_nonneg _ aa
 have hk:Min.min 1 k.bits=1:=by cases k<;>rfl
 simp[execOp,ay.aO ag,ay.aO aE,eqGuard,Go.binOp,Op.shift,hk,e]
theorem bA.mo{x y:Operand}{xt yt:TypeId}{p q:Int}(r:Int)(ag:aO E x=some (.int .i32 p))(aE:aO E y=some (.int .i32 q))(a':p+q=r/\-2147483648<=r/\r<=2147483647):bA P ⟨d,.binOp .add xt x y yt,ty,pos,af,gd⟩ E C (.int .i32 r):=by
 have h:=bA.add (P:=P) (C:=C) (d:=d) (xt:=xt) (yt:=yt) (ty:=ty) (pos:=pos) (af:=af) (gd:=gd) ag aE;rw[IntWalk.i32_in _ aa,a'.1] at h;exact h
theorem bA.yD{x y:Operand}{xt yt:TypeId}{p q:Int}(r:Int)(ag:aO E x=some (.int .i32 p))(aE:aO E y=some (.int .i32 q))(a':p-q=r/\-2147483648<=r/\r<=2147483647):bA P ⟨d,.binOp .sub xt x y yt,ty,pos,af,gd⟩ E C (.int .i32 r):=by
 have h:=bA.sub (P:=P) (C:=C) (d:=d) (xt:=xt) (yt:=yt) (ty:=ty) (pos:=pos) (af:=af) (gd:=gd) ag aE;rw[IntWalk.i32_in _ aa,a'.1] at h;exact h
theorem bA.qu{x y:Operand}{xt yt:TypeId}{p q:Int}(r:Int)(ag:aO E x=some (.int .i32 p))(aE:aO E y=some (.int .i32 q))(a':p*q=r/\-2147483648<=r/\r<=2147483647):bA P ⟨d,.binOp .mul xt x y yt,ty,pos,af,gd⟩ E C (.int .i32 r):=by
 have h:=bA.mul (P:=P) (C:=C) (d:=d) (xt:=xt) (yt:=yt) (ty:=ty) (pos:=pos) (af:=af) (gd:=gd) ag aE;rw[IntWalk.i32_in _ (by rw[a'.1];omega),a'.1] at h;exact h
theorem bA.yE{t:TypeId}{x y:Operand}{s:aj}{k:IntKind}{n:Int}(i:Nat)(a_:P.underlying t=some .string)(ag:aO E x=some (aD s))(aE:aO E y=some (.int k n))(aR:n=(i:Int))(ar:i<s.length):
 bA P ⟨d,.index t x y,ty,pos,af,gd⟩ E C (.int .u8 ((dv s i:Nat):Int)):=by
 have h:=bA.abG (P:=P) (E:=E) (C:=C) (d:=d) (ty:=ty) (pos:=pos) (af:=af) (gd:=gd) i a_ ag aE aR ar;have e:dv s i=s[i].toNat:=(by unfold dv;rw[List.getElem?_eq_getElem ar];rfl);rw[e];exact h
end
inductive c3{α β:Type}(R:α->β->Prop):List α->List β->Prop
 | nil:c3 R [] []
 | cons {a:α} {b:β} {l:List α} {m:List β}:R a b->c3 R l m->c3 R (a::l) (b::m)
theorem c3.imp{α β:Type}{R S:α->β->Prop}(h:∀a b,R a b->S a b){l:List α}{m:List β}(k:c3 R l m):c3 S l m:=by
 induction k with
 | nil=>exact .nil
 | cons h1 _ cc=>exact .cons (h _ _ h1) cc
theorem c3.get{α β:Type}{R:α->β->Prop}{l:List α}{m:List β}(k:c3 R l m):l.length=m.length/\∀(i:Nat) (a:α) (b:β),l[i]?=some a->m[i]?=some b->R a b:=by
 induction k with
 | nil=>exact⟨rfl,by simp⟩
 | cons h1 _ cc =>
  refine⟨by simp[cc.1],λi x y ag aE=>?_⟩
  cases i with
  | zero=>simp only[List.getElem?_cons_zero,Option.some.injEq] at ag aE;subst ag aE;exact h1
  | succ i=>exact cc.2 i x y uU (by simpa using aE)
theorem c3.app{α β:Type}{R:α->β->Prop}{l dP:List α}{m m2:List β}(k:c3 R l m)(cD:c3 R dP m2):c3 R (l++dP) (m++m2):=by
 induction k with
 | nil=>exact cD
 | cons h1 _ cc=>exact .cons h1 cc
end Go.aG
namespace Go.ak
open Go.aG
def h5(s:aj)(k:Nat):Bool:=decide (k<s.length/\128<=dv s k/\dv s k<=191)
def gp(s:aj)(k:Nat):Int:=if h5 s k=true then(dv s k:Int)-128 else 0
def fA(s:aj)(i:Nat):Int×Int:=
 let c:Int:=(dv s i:Int)
 if c<128 then(c,1)
 else if c>=194/\c<=223/\h5 s (i+1)=true then((c-192)*64+gp s (i+1),2)
 else if c>=224/\c<=239/\h5 s (i+1)=true/\h5 s (i+2)=true then((c-224)*4096+gp s (i+1)*64+gp s (i+2),3)
 else if c>=240/\c<=244/\h5 s (i+1)=true/\h5 s (i+2)=true/\h5 s (i+3)=true then((c-240)*262144+gp s (i+1)*4096+gp s (i+2)*64+gp s (i+3),4)
 else(0,0)
def pq(r:Int):Bool:=decide (r>=0) && decide (r<=1114111) && (decide (r<55296) || decide (r>57343)) && !(r==65533)
def v'(s:aj)(i:Nat):Bool:=(fA s i).2==0 || !pq (fA s i).1 || ((fA s i).2==3 && decide ((fA s i).1<2048)) || ((fA s i).2==4 && decide ((fA s i).1<65536))
theorem get_at(s:aj)(k:Nat):((⟨s.toArray⟩:ByteArray).get! k).toNat=dv s k:=by
 unfold dv;show(s.toArray[k]!).toNat=_;simp[List.getElem!_eq_getElem?_getD];rfl
theorem LO(L i c:Nat)(al:c<256):(decide (i<L) && (c / 64==2))=decide (i<L/\128<=c/\c<=191):=by
 rw[Bool.eq_iff_iff];simp only[Bool.and_eq_true,decide_eq_true_eq,beq_iff_eq];omega
def u0(fp c1 c2 hG:Nat)(bt cD dK:Bool):Nat×Nat:=
 if fp<128 then(fp,1)
 else if (fp / 32==6 && bt)=true then(if fp % 32*64+c1 % 64>=128 then(fp % 32*64+c1 % 64,2) else(65533,1))
 else if (fp / 16==14 && bt && cD)=true then(if (decide (fp % 16*4096+c1 % 64*64+c2 % 64>=2048) && Utf8.valid ((fp % 16*4096+c1 % 64*64+c2 % 64:Nat):Int))=true then(fp % 16*4096+c1 % 64*64+c2 % 64,3) else(65533,1))
 else if (fp / 8==30 && bt && cD && dK)=true then(if (decide (fp % 8*262144+c1 % 64*4096+c2 % 64*64+hG % 64>=65536) && Utf8.valid ((fp % 8*262144+c1 % 64*4096+c2 % 64*64+hG % 64:Nat):Int))=true then(fp % 8*262144+c1 % 64*4096+c2 % 64*64+hG % 64,4) else(65533,1))
 else(65533,1)
theorem LP(s:aj)(i:Nat):dec (s.drop i)=u0 (dv s i) (dv s (i+1)) (dv s (i+2)) (dv s (i+3)) (h5 s (i+1)) (h5 s (i+2)) (h5 s (i+3)):=by
 have dN:(⟨s.toArray⟩:ByteArray).size=s.length:=(by simp[ByteArray.size]);rw[<-RR];unfold Utf8.decode u0 h5;simp only[get_at,dN,Nat.add_zero,Utf8.runeError];rw[LO _ _ _ (uZ s (i+1)),LO _ _ _ (uZ s (i+2)),LO _ _ _ (uZ s (i+3))]
def Al(fp c1 c2 hG:Int)(bt cD dK:Bool):Int×Int:=
 if fp<128 then(fp,1)
 else if fp>=194/\fp<=223/\bt=true then((fp-192)*64+(if bt=true then c1-128 else 0),2)
 else if fp>=224/\fp<=239/\bt=true/\cD=true then((fp-224)*4096+(if bt=true then c1-128 else 0)*64+(if cD=true then c2-128 else 0),3)
 else if fp>=240/\fp<=244/\bt=true/\cD=true/\dK=true then((fp-240)*262144+(if bt=true then c1-128 else 0)*4096+(if cD=true then c2-128 else 0)*64+(if dK=true then hG-128 else 0),4)
 else(0,0)
theorem acg(s:aj)(i:Nat):fA s i=Al (dv s i) (dv s (i+1)) (dv s (i+2)) (dv s (i+3)) (h5 s (i+1)) (h5 s (i+2)) (h5 s (i+3)):=rfl
def yF(p:Int×Int):Prop:=p.2=0\/¬ (p.1>=0/\p.1<=1114111/\(p.1<55296\/p.1>57343)/\p.1≠65533)\/(p.2=3/\p.1<2048)\/(p.2=4/\p.1<65536)
theorem Er(s:aj)(i:Nat):v' s i=true↔yF (fA s i):=by
 unfold v' yF pq;generalize (fA s i).1=r;generalize (fA s i).2=n;simp only[Bool.or_eq_true,Bool.and_eq_true,beq_iff_eq,decide_eq_true_eq,Bool.not_eq_true',Bool.and_eq_false_iff,Bool.or_eq_false_iff,decide_eq_false_iff_not,Bool.not_eq_false'];omega
theorem Es(n:Nat):Utf8.valid (n:Int)=decide (n<55296\/(57344<=n/\n<=1114111)):=by
 unfold Utf8.valid;rw[Bool.eq_iff_iff];simp only[Bool.or_eq_true,Bool.and_eq_true,decide_eq_true_eq];omega
theorem arith(fp c1 c2 hG:Nat)(bK:fp<256)(bt cD dK:Bool)(h1:bt=true->128<=c1/\c1<=191)(ah:cD=true->128<=c2/\c2<=191)(aB:dK=true->128<=hG/\hG<=191):
 (yF (Al fp c1 c2 hG bt cD dK)->(u0 fp c1 c2 hG bt cD dK).1=65533) /\
 (¬ yF (Al fp c1 c2 hG bt cD dK)->((u0 fp c1 c2 hG bt cD dK).1:Int)=(Al fp c1 c2 hG bt cD dK).1/\((u0 fp c1 c2 hG bt cD dK).2:Int)=(Al fp c1 c2 hG bt cD dK).2/\(Al fp c1 c2 hG bt cD dK).1≠65533):=by
 unfold u0 Al yF;simp only[Es]
 cases bt<;>cases cD<;>cases dK<;>simp only[Bool.and_true,Bool.and_false,Bool.false_eq_true,if_false,if_true,and_false,and_true,false_and,true_and,forall_const,false_implies,beq_iff_eq,Bool.and_eq_true,decide_eq_true_eq] at *<;>(repeat' split)<;>first|(simp only at *;omega)|omega
theorem Su(s:aj)(i:Nat):(v' s i=true->(dec (s.drop i)).1=65533)/\(v' s i=false->((dec (s.drop i)).1:Int)=(fA s i).1/\((dec (s.drop i)).2:Int)=(fA s i).2/\(fA s i).1≠65533):=by
 have al:∀k,h5 s k=true->128<=dv s k/\dv s k<=191:=λk h=>by unfold h5 at h;exact(of_decide_eq_true h).2
 have h:=arith (dv s i) (dv s (i+1)) (dv s (i+2)) (dv s (i+3)) (uZ s i) _ _ _ (al (i+1)) (al (i+2)) (al (i+3));rw[<-LP,<-acg] at h;refine⟨λab=>h.1 ((Er s i).1 ab),λab=>h.2 (λhp=>?_)⟩;rw[(Er s i).2 hp] at ab;cases ab
theorem tT{s:aj}{i:Nat}:h5 s i=true↔(i<s.length/\128<=dv s i/\dv s i<=191):=by unfold h5;exact decide_eq_true_iff
theorem ach{s:aj}{i:Nat}(h:i<s.length/\128<=dv s i/\dv s i<=191):true=h5 s i:=(tT.2 h).symm
theorem aci{s:aj}{i:Nat}(h:¬ (i<s.length/\128<=dv s i/\dv s i<=191)):false=h5 s i:=by
 cases al:h5 s i with
 | false=>rfl
 | true=>exact absurd (tT.1 al) h
theorem acj{s:aj}{i:Nat}(h:i<s.length/\128<=dv s i/\dv s i<=191):((dv s i:Nat):Int)-128=gp s i:=by
 unfold gp;rw[if_pos (tT.2 h)]
theorem ack{s:aj}{i:Nat}(h:¬ (i<s.length/\128<=dv s i/\dv s i<=191)):(0:Int)=gp s i:=by
 unfold gp;rw[if_neg (λal=>h (tT.1 al))]
theorem Ce(s:aj)(i:Nat):0<=gp s i/\gp s i<=63:=by
 unfold gp;split
 . rename_i h;have:=tT.1 h;omega
 . omega
theorem acm{s:aj}{i:Nat}(h:((dv s i:Nat):Int)<128):((dv s i:Nat):Int)=(fA s i).1/\(1:Int)=(fA s i).2:=by
 unfold fA;simp only;rw[if_pos h];exact⟨rfl,rfl⟩
theorem acn{s:aj}{i:Nat}(h:¬ ((dv s i:Nat):Int)<128)(ah:((dv s i:Nat):Int)>=194/\((dv s i:Nat):Int)<=223/\h5 s (i+1)=true):
 (((dv s i:Nat):Int)-192)*64+gp s (i+1)=(fA s i).1/\(2:Int)=(fA s i).2:=by
 unfold fA;simp only;rw[if_neg h,if_pos ah];exact⟨rfl,rfl⟩
theorem Sv{s:aj}{i:Nat}(h:¬ ((dv s i:Nat):Int)<128)(ah:¬ (((dv s i:Nat):Int)>=194/\((dv s i:Nat):Int)<=223/\h5 s (i+1)=true))
 (aB:((dv s i:Nat):Int)>=224/\((dv s i:Nat):Int)<=239/\h5 s (i+1)=true/\h5 s (i+2)=true) :
 (((dv s i:Nat):Int)-224)*4096+gp s (i+1)*64+gp s (i+2)=(fA s i).1/\(3:Int)=(fA s i).2:=by
 unfold fA;simp only;rw[if_neg h,if_neg ah,if_pos aB];exact⟨rfl,rfl⟩
theorem HB{s:aj}{i:Nat}(h:¬ ((dv s i:Nat):Int)<128)(ah:¬ (((dv s i:Nat):Int)>=194/\((dv s i:Nat):Int)<=223/\h5 s (i+1)=true))
 (aB:¬ (((dv s i:Nat):Int)>=224/\((dv s i:Nat):Int)<=239/\h5 s (i+1)=true/\h5 s (i+2)=true))
 (bH:((dv s i:Nat):Int)>=240/\((dv s i:Nat):Int)<=244/\h5 s (i+1)=true/\h5 s (i+2)=true/\h5 s (i+3)=true) :
 (((dv s i:Nat):Int)-240)*262144+gp s (i+1)*4096+gp s (i+2)*64+gp s (i+3)=(fA s i).1/\(4:Int)=(fA s i).2:=by
 unfold fA;simp only;rw[if_neg h,if_neg ah,if_neg aB,if_pos bH];exact⟨rfl,rfl⟩
theorem jg{s:aj}{i:Nat}(h:¬ ((dv s i:Nat):Int)<128)(ah:¬ (((dv s i:Nat):Int)>=194/\((dv s i:Nat):Int)<=223/\h5 s (i+1)=true))
 (aB:¬ (((dv s i:Nat):Int)>=224/\((dv s i:Nat):Int)<=239/\h5 s (i+1)=true/\h5 s (i+2)=true))
 (bH:¬ (((dv s i:Nat):Int)>=240/\((dv s i:Nat):Int)<=244/\h5 s (i+1)=true/\h5 s (i+2)=true/\h5 s (i+3)=true)) :
 (0:Int)=(fA s i).1/\(0:Int)=(fA s i).2:=by
 unfold fA;simp only;rw[if_neg h,if_neg ah,if_neg aB,if_neg bH];exact⟨rfl,rfl⟩
theorem aco(s:aj)(i:Nat):0<=(fA s i).1/\(fA s i).1<=1500000/\0<=(fA s i).2/\(fA s i).2<=4:=by
 have bK:=uZ s i;have h1:=Ce s (i+1);have ah:=Ce s (i+2);have aB:=Ce s (i+3);unfold fA;simp only;repeat' split
 all_goals (simp only;omega)
theorem acp(s:aj)(i:Nat)(ar:i<s.length):(i:Int)+(fA s i).2<=s.length:=by
 unfold fA;simp only;repeat' split
 all_goals simp only
 . omega
 . rename_i h;have:=(tT.1 h.2.2).1;omega
 . rename_i h;have:=(tT.1 h.2.2.2).1;omega
 . rename_i h;have:=(tT.1 h.2.2.2.2).1;omega
 . omega
theorem Cf(r:Int):pq r=decide (0<=r/\r<=1114111/\(r<55296\/r>57343)/\r≠65533):=by
 unfold pq;rw[Bool.eq_iff_iff];simp only[Bool.and_eq_true,Bool.or_eq_true,decide_eq_true_eq,Bool.not_eq_true',beq_eq_false_iff_ne];omega
theorem acq{r:Int}{b:Bool}(h:0<=r/\r<=1114111/\(r<55296\/r>57343))(ab:b=(r != 65533)):b=pq r:=by
 rw[ab,Cf,Bool.eq_iff_iff];simp only[bne_iff_ne,decide_eq_true_eq];omega
theorem acr{r:Int}(h:¬ (0<=r/\r<=1114111/\(r<55296\/r>57343))):false=pq r:=by
 rw[Cf,decide_eq_false aa]
structure nc(s:aj)(i:Nat)(l:List Int):Prop where
 ex:∃pre,Scan s i pre/\l=pre.map (λn:Nat=>(n:Int))/\65533∉pre
def dZ(s:aj):List Int:=(hg s).map λn:Nat=>(n:Int)
def jW(s:aj):Bool:=decide (65533∉hg s)
theorem nc.start(s:aj):nc s 0 []:=⟨⟨[],Scan.start s,rfl,by simp⟩⟩
theorem nc.next{s:aj}{i j:Nat}{l:List Int}(h:nc s i l)(ar:i<s.length)(ab:v' s i=false)(bo:(j:Int)=(i:Int)+(fA s i).2):nc s j (l++[(fA s i).1]):=by
 obtain⟨pre,h1,ah,aB⟩:=h.ex;have hd:=(Su s i).2 ab;have dL:s.drop i≠[]:=λe=>by have:=congrArg List.length e;simp at this;omega
 have aR:=h1.next dL;have e:j=i+(dec (s.drop i)).2:=(by omega);rw[e];refine⟨⟨_,aR,by rw[ah,List.map_append,<-hd.1];rfl,?_⟩⟩;simp only[List.mem_append,List.mem_singleton,not_or];exact⟨aB,λe=>by have:=hd.1;rw[<-e] at this;exact hd.2.2 this.symm⟩
theorem nc.bad{s:aj}{i:Nat}{l:List Int}(h:nc s i l)(ar:i<s.length)(ab:v' s i=true):false=jW s:=by
 obtain⟨pre,h1,ah,aB⟩:=h.ex;have dL:s.drop i≠[]:=λe=>by have:=congrArg List.length e;simp at this;omega
 have:=h1.mem dL;rw[(Su s i).1 ab] at this;unfold jW;simp[this]
theorem nc.fin{s:aj}{i:Nat}{l:List Int}(h:nc s i l)(ar:s.length<=i):l=dZ s/\true=jW s:=by
 obtain⟨pre,h1,ah,aB⟩:=h.ex;have:=h1.done (List.drop_of_length_le ar);refine⟨by rw[ah,dZ,this],?_⟩;unfold jW;rw[this];simp[aB]
theorem nc.len{s:aj}{i:Nat}{l:List Int}(h:nc s i l):l.length<=i:=by
 obtain⟨pre,h1,ah,aB⟩:=h.ex;rw[ah,List.length_map];exact h1.len
theorem acs(s:aj):iL s=if jW s=true then((dZ s).length:Int) else -1:=by
 unfold iL jW dZ;by_cases h:65533∈hg s
 . simp[h]
 . simp[h]
theorem acu{s:aj}{i:Nat}(bK:(fA s i).2≠0)(aV:pq (fA s i).1=true)(aB:¬ ((fA s i).2=3/\(fA s i).1<2048))(bH:¬ ((fA s i).2=4/\(fA s i).1<65536)):v' s i=false:=by
 cases ab:v' s i with
 | false=>rfl
 | true =>
  have:=(Er s i).1 ab;rw[Cf] at aV;have:=of_decide_eq_true aV;unfold yF at *;omega
theorem Sw{s:aj}{i:Nat}(h:(fA s i).2=0\/((fA s i).2=3/\(fA s i).1<2048)\/((fA s i).2=4/\(fA s i).1<65536)):v' s i=true:=by
 rw[Er];unfold yF;omega
theorem Sx{s:aj}{i:Nat}(h:pq (fA s i).1=false):v' s i=true:=by
 rw[Er];unfold yF;rw[Cf] at h;have:=of_decide_eq_false h;omega
def jH(s:aj):List Int:=if jW s=true then dZ s else[]
theorem Et{s:aj}(h:false=jW s):[]=jH s:=by unfold jH;rw[<-h];rfl
theorem Eu{s:aj}(h:true=jW s):dZ s=jH s:=by unfold jH;rw[<-h];rfl
theorem Sy(s:aj):iL s=if jW s=true then((jH s).length:Int) else -1:=by
 rw[acs];by_cases h:jW s=true
 . rw[if_pos h,if_pos h,jH,if_pos h]
 . rw[if_neg h,if_neg h]
theorem Sz{s:aj}(h:jW s=false):(-1:Int)=iL s:=by rw[Sy,h];rfl
theorem SA{s:aj}(h:jW s=true):(((jH s).length:Nat):Int)=iL s:=by rw[Sy,if_pos h]
structure s4(a b:aj)(i:Nat):Prop where
 eq:Lib.compareBytes a b=Lib.compareBytes (a.drop i) (b.drop i)
theorem s4.start(a b:aj):s4 a b 0:=⟨rfl⟩
theorem yG{s:aj}{i:Nat}(h:i<s.length):s.drop i=s[i]::s.drop (i+1):=List.drop_eq_getElem_cons h
theorem Am{s:aj}{i:Nat}(h:i<s.length):dv s i=s[i].toNat:=by unfold dv;rw[List.getElem?_eq_getElem h];rfl
theorem s4.lt{a b:aj}{i:Nat}(h:s4 a b i)(ay:i<a.length)(ab:i<b.length)(al:dv a i<dv b i):(-1:Int)=Lib.compareBytes a b:=by
 rw[Am ay,Am ab] at al;rw[h.eq,yG ay,yG ab,Lib.compareBytes,if_pos (UInt8.lt_iff_toNat_lt.2 al)]
theorem s4.gt{a b:aj}{i:Nat}(h:s4 a b i)(ay:i<a.length)(ab:i<b.length)(al:dv b i<dv a i):(1:Int)=Lib.compareBytes a b:=by
 rw[Am ay,Am ab] at al;rw[h.eq,yG ay,yG ab,Lib.compareBytes,if_neg (λhF=>by have:=UInt8.lt_iff_toNat_lt.1 hF;omega),if_pos (UInt8.lt_iff_toNat_lt.2 al)]
theorem s4.next{a b:aj}{i:Nat}(h:s4 a b i)(ay:i<a.length)(ab:i<b.length)(al:dv a i=dv b i):s4 a b (i+1):=by
 rw[Am ay,Am ab] at al;refine⟨?_⟩;rw[h.eq,yG ay,yG ab,Lib.compareBytes,if_neg (λhF=>by have:=UInt8.lt_iff_toNat_lt.1 hF;omega),if_neg (λhF=>by have:=UInt8.lt_iff_toNat_lt.1 hF;omega)]
theorem s4.fin{a b:aj}{i:Nat}(h:s4 a b i)(he:a.length<=i\/b.length<=i)(SB:i<=a.length)(SC:i<=b.length){r:Int}(a':(a.length<b.length/\r=-1)\/(b.length<a.length/\r=1)\/(a.length=b.length/\r=0)):r=Lib.compareBytes a b:=by
 rw[h.eq];rcases a' with ⟨h1,ah⟩|⟨h1,ah⟩|⟨h1,ah⟩
 . have ab:i<b.length:=(by omega);rw[List.drop_of_length_le (show a.length<=i by omega),yG ab,ah];rfl
 . have ay:i<a.length:=(by omega);rw[List.drop_of_length_le (show b.length<=i by omega),yG ay,ah];rfl
 . rw[List.drop_of_length_le (show a.length<=i by omega),List.drop_of_length_le (show b.length<=i by omega),ah];rfl
end Go.ak
namespace Go.ak
open Go.aG
def kN(c:Nat):Prop:=c<=1114111/\(c<55296\/57343<c)/\c≠65533
def hS(n:Nat):UInt8:=UInt8.ofNat n
def en(c:Nat):aj:=
 if c<128 then[hS c] else if c<2048 then[hS (192+c / 64),hS (128+c % 64)]
 else if c<65536 then[hS (224+c / 4096),hS (128+c / 64 % 64),hS (128+c % 64)]
 else[hS (240+c / 262144),hS (128+c / 4096 % 64),hS (128+c / 64 % 64),hS (128+c % 64)]
theorem acv(r:Int)(h:Utf8.valid r=true):fC r=en r.toNat:=by
 unfold fC Utf8.encode en hS;simp only[h,if_true];by_cases h1:r.toNat<128
 . rw[if_pos h1,if_pos h1]
 . rw[if_neg h1,if_neg h1];by_cases ah:r.toNat<2048
   . rw[if_pos ah,if_pos ah]
   . rw[if_neg ah,if_neg ah];by_cases aB:r.toNat<65536
     . rw[if_pos aB,if_pos aB]
     . rw[if_neg aB,if_neg aB]
theorem yH{c:Nat}(h:kN c):fC (c:Int)=en c:=by
 have cK:Utf8.valid (c:Int)=true:=(by rw[Es];exact decide_eq_true (by unfold kN at h;omega));have:=acv _ cK;rwa[Int.toNat_natCast] at this
theorem xq(n:Nat):(hS n).toNat=n % 256:=by unfold hS;simp
theorem wa(s:aj)(k:Nat)(h:k<s.length):hS (dv s k)=s[k]:=by
 rw[Am h];unfold hS;simp
theorem xr{a b:Nat}(h:a=b):hS a=hS b:=by rw[h]
theorem take_one{s:aj}(h:1<=s.length):s.take 1=[hS (dv s 0)]:=by
 rw[wa s 0 aa]
 match s,h with
 | a::r,_=>rfl
theorem acw{s:aj}(h:2<=s.length):s.take 2=[hS (dv s 0),hS (dv s 1)]:=by
 rw[wa s 0 aa,wa s 1 aa]
 match s,h with
 | a::b::r,_=>rfl
theorem acx{s:aj}(h:3<=s.length):s.take 3=[hS (dv s 0),hS (dv s 1),hS (dv s 2)]:=by
 rw[wa s 0 aa,wa s 1 aa,wa s 2 aa]
 match s,h with
 | a::b::c::r,_=>rfl
theorem acy{s:aj}(h:4<=s.length):s.take 4=[hS (dv s 0),hS (dv s 1),hS (dv s 2),hS (dv s 3)]:=by
 rw[wa s 0 aa,wa s 1 aa,wa s 2 aa,wa s 3 aa]
 match s,h with
 | a::b::c::d::r,_=>rfl
theorem yI {s:aj} (aT:s≠[]) (h:(dec s).1≠65533):kN (dec s).1∧en (dec s).1=s.take (dec s).2:=by
 have bl:1≤s.length:=(by cases s with|nil=>exact absurd rfl aT|cons a r=>simp);have hd:=LP s 0;rw [List.drop_zero] at hd;rw [hd] at h ⊢;have m_:=uZ s 0; have aL:=uZ s 1; have aQ:=uZ s 2; have bx:=uZ s 3;have c1:h5 s 1=true→1 < s.length∧128≤dv s 1∧dv s 1≤191:=fun h=>tT.1 h
 have c2:h5 s 2=true→2 < s.length∧128≤dv s 2∧dv s 2≤191:=fun h=>tT.1 h
 have hG:h5 s 3=true→3 < s.length∧128≤dv s 3∧dv s 3≤191:=fun h=>tT.1 h
 simp only [Nat.zero_add] at h ⊢;unfold u0 at h ⊢;simp only [Es,Bool.and_eq_true,beq_iff_eq,decide_eq_true_eq] at h ⊢;split
 · rename_i bK;refine ⟨⟨by omega,by omega,by omega⟩,?_⟩;unfold en;rw [if_pos bK,take_one bl]
 · rename_i bK;rw [if_neg bK] at h;split
   · rename_i h1;rw [if_pos h1] at h;have:=c1 h1.2;split
     · rename_i ah;rw [if_pos ah] at h;refine ⟨⟨by omega,by omega,h⟩,?_⟩;simp only;unfold en;rw [if_neg aa,if_pos aa,acw aa];congr 1
       · exact xr aa
       · congr 1; exact xr aa
     · rename_i ah; rw [if_neg ah] at h; exact absurd rfl h
   · rename_i h1;rw [if_neg h1] at h;split
     · rename_i ah;rw [if_pos ah] at h;have:=c1 ah.1.2; have:=c2 ah.2;split
       · rename_i aB;rw [if_pos aB] at h;simp only at h;refine ⟨⟨by omega,by omega,h⟩,?_⟩;simp only;unfold en;rw [if_neg aa,if_neg aa,if_pos aa,acx aa];congr 1
         · exact xr aa
         · congr 1
           · exact xr aa
           · congr 1; exact xr aa
       · rename_i aB; rw [if_neg aB] at h; exact absurd rfl h
     · rename_i ah;rw [if_neg ah] at h;split
       · rename_i aB;rw [if_pos aB] at h;have:=c1 aB.1.1.2; have:=c2 aB.1.2; have:=hG aB.2;split
         · rename_i bH;rw [if_pos bH] at h;simp only at h;refine ⟨⟨by omega,by omega,h⟩,?_⟩;simp only;unfold en;rw [if_neg aa,if_neg aa,if_neg aa,acy aa];congr 1
           · exact xr aa
           · congr 1
             · exact xr aa
             · congr 1
               · exact xr aa
               · congr 1; exact xr aa
         · rename_i bH; rw [if_neg bH] at h; exact absurd rfl h
       · rename_i aB; rw [if_neg aB] at h; exact absurd rfl h
theorem HC(a:UInt8)(s:aj):dv (a::s) 0=a.toNat:=rfl
theorem Cg(a b:UInt8)(s:aj):dv (a::b::s) 1=b.toNat:=rfl
theorem HD(a b c:UInt8)(s:aj):dv (a::b::c::s) 2=c.toNat:=rfl
theorem SD(a b c d:UInt8)(s:aj):dv (a::b::c::d::s) 3=d.toNat:=rfl
theorem Ch{s:aj}{k:Nat}(h:k<s.length/\128<=dv s k/\dv s k<=191):h5 s k=true:=tT.2 h
theorem LQ{c:Nat}(h:kN c)(t:aj):dec (en c++t)=(c,(en c).length):=by
 have hd:=LP (en c++t) 0;rw[List.drop_zero] at hd;rw[hd];obtain⟨h1,ah,aB⟩:=h;unfold en;simp only[Nat.zero_add];split
 . rename_i bK;simp only[List.cons_append,List.nil_append,HC,xq];unfold u0;rw[if_pos aa];simp only[List.length_cons,List.length_nil,Prod.mk.injEq,and_true];omega
 . rename_i bK;split
   . rename_i acz;have bt:h5 ([hS (192+c / 64),hS (128+c % 64)]++t) 1=true:=Ch LR;rw[bt];simp only[List.cons_append,List.nil_append,HC,Cg,xq];unfold u0;rw[if_neg aa,if_pos Ci,if_pos aa];simp only[List.length_cons,List.length_nil,Prod.mk.injEq,and_true];omega
   . rename_i acz;split
     . rename_i acA;have bt:h5 ([hS (224+c / 4096),hS (128+c / 64 % 64),hS (128+c % 64)]++t) 1=true:=Ch LR;have cD:h5 ([hS (224+c / 4096),hS (128+c / 64 % 64),hS (128+c % 64)]++t) 2=true:=Ch (by simp only[List.cons_append,List.nil_append,HD,xq,List.length_cons];omega);rw[bt,cD];simp only[List.cons_append,List.nil_append,HC,Cg,HD,xq];unfold u0;rw[if_neg aa,if_neg Ci,if_pos Ci,if_pos (by rw[Es];simp only[Bool.and_eq_true,decide_eq_true_eq];omega)];simp only[List.length_cons,List.length_nil,Prod.mk.injEq,and_true];omega
     . rename_i acA;have bt:h5 ([hS (240+c / 262144),hS (128+c / 4096 % 64),hS (128+c / 64 % 64),hS (128+c % 64)]++t) 1=true:=Ch LR;have cD:h5 ([hS (240+c / 262144),hS (128+c / 4096 % 64),hS (128+c / 64 % 64),hS (128+c % 64)]++t) 2=true:=Ch (by simp only[List.cons_append,List.nil_append,HD,xq,List.length_cons];omega);have dK:h5 ([hS (240+c / 262144),hS (128+c / 4096 % 64),hS (128+c / 64 % 64),hS (128+c % 64)]++t) 3=true:=Ch (by simp only[List.cons_append,List.nil_append,SD,xq,List.length_cons];omega);rw[bt,cD,dK];simp only[List.cons_append,List.nil_append,HC,Cg,HD,SD,xq];unfold u0;rw[if_neg aa,if_neg Ci,if_neg Ci,if_pos Ci,if_pos (by rw[Es];simp only[Bool.and_eq_true,decide_eq_true_eq];omega)];simp only[List.length_cons,List.length_nil,Prod.mk.injEq,and_true];omega
def ix(s:aj):Prop:=65533∉hg s
theorem SE{s:aj}:jW s=true↔ix s:=by unfold jW ix;exact decide_eq_true_iff
theorem yJ{s:aj}(aT:s≠[]):ix s↔(dec s).1≠65533/\ix (s.drop (dec s).2):=by
 unfold ix;rw[xp aT,List.mem_cons,not_or];exact⟨λh=>⟨λe=>h.1 e.symm,h.2⟩,λh=>⟨λe=>h.1 e.symm,h.2⟩⟩
theorem ix.split{s:aj}(h:ix s)(aT:s≠[]):kN (dec s).1/\s=en (dec s).1++s.drop (dec s).2/\ix (s.drop (dec s).2):=by
 have h1:=(yJ aT).1 h;have ah:=yI aT h1.1;exact⟨ah.1,by rw[ah.2,List.take_append_drop],h1.2⟩
theorem LS(c:Nat):en c≠[]:=by
 unfold en;repeat' split
 all_goals simp
theorem SF(c:Nat):1<=(en c).length:=by
 unfold en;repeat' split
 all_goals simp
theorem ix.app{c:Nat}{t:aj}(al:kN c)(a_:ix t):ix (en c++t):=by
 have dL:en c++t≠[]:=(by simp[LS]);rw[yJ dL,LQ al t];simp only[List.drop_left];exact⟨al.2.2,a_⟩
theorem wb{c:Nat}(al:kN c)(t:aj):hg (en c++t)=c::hg t:=by
 have dL:en c++t≠[]:=(by simp[LS]);rw[xp dL,LQ al t];simp only[List.drop_left]
def sj(rs:List Nat):aj:=rs.flatMap en
theorem SG:∀(rs:List Nat),(∀c∈rs,kN c)->hg (sj rs)=rs
 | [],_=>xo
 | c::rs,h=>by
  show hg (en c++sj rs)=_
  rw[wb (h c dh),SG rs λc al=>h c (by simp[al])]
theorem LU{p:aj->Prop}(bK:p [])(h1:∀c t,kN c->ix t->p t->p (en c++t)):∀s,ix s->p s:=by
 have:∀n s,s.length<=n->ix s->p s:=by
  intro n
  induction n with
  | zero=>intro s aT _;have:s=[]:=List.eq_nil_of_length_eq_zero aa;subst this;exact bK
  | succ n cc =>
   intro s aT bD
   by_cases he:s=[]
   . subst he;exact bK
   . obtain⟨g1,g2,g3⟩:=bD.split he
     have:=yz s he
     rw[g2]
     exact h1 _ _ g1 g3 (cc _ (by rw[List.length_drop];omega) g3)
 exact λs bD=>this _ s (Nat.le_refl _) bD
theorem HE(s:aj)(h:ix s):sj (hg s)=s/\∀c∈hg s,kN c:=by
 revert s
 refine LU ⟨by rw[xo];rfl,by rw[xo];simp⟩ ?_;intro c t al a_ cc;rw[wb al];refine⟨by show en c++sj (hg t)=_;rw[cc.1],λd hd=>?_⟩;rcases List.mem_cons.1 hd with rfl|hd
 . exact al
 . exact cc.2 d hd
theorem SH{s:aj}(h:ix s):iL s=((hg s).length:Int):=by unfold iL;rw[if_neg h]
theorem acB{s:aj}(h:0<=iL s):ix s:=by
 unfold iL at h;split at h
 . omega
 . assumption
theorem LV{s:aj}(h:word s=true):ix s/\1<=(hg s).length/\(hg s).length<=12:=by
 unfold word at h;simp only[Bool.and_eq_true,decide_eq_true_eq] at h;have bD:=acB (by omega:0<=iL s);rw[SH bD] at h;exact⟨bD,by omega,by omega⟩
end Go.ak
namespace Go.ak
open Go.aG
def nC(a b:aj):Prop:=Lib.compareBytes a b<0
theorem Ev:∀(a:aj),Lib.compareBytes a a=0
 | []=>rfl
 | a::x=>by unfold Lib.compareBytes;rw[if_neg dh,if_neg dh];exact Ev x
theorem cmp_eq:∀{a b:aj},Lib.compareBytes a b=0->a=b
 | [],[],_=>rfl
 | [],_::_,h=>by simp[Lib.compareBytes] at h
 | _::_,[],h=>by simp[Lib.compareBytes] at h
 | a::x,b::y,h=>by
  unfold Lib.compareBytes at h
  split at h
  . simp at h
  . split at h
    . simp at h
    . rename_i h1 ah
      have:a=b:=by
       apply UInt8.le_antisymm
       . exact UInt8.not_lt.1 ah
       . exact UInt8.not_lt.1 h1
      rw[this,cmp_eq h]
theorem SI:∀(a b:aj),Lib.compareBytes a b=- Lib.compareBytes b a
 | [],[]=>rfl
 | [],_::_=>by simp[Lib.compareBytes]
 | _::_,[]=>by simp[Lib.compareBytes]
 | a::x,b::y=>by
  unfold Lib.compareBytes
  by_cases h1:a<b
  . have ah:¬ b<a:=UInt8.lt_asymm h1
    simp[h1,ah]
  . by_cases ah:b<a
    . simp[h1,ah]
    . simp only[h1,ah,if_false];exact SI x y
theorem lt_trans:∀{a b c:aj},nC a b->nC b c->nC a c
 | [],[],_,h,_=>by simp[nC,Lib.compareBytes] at h
 | [],_::_,[],_,h=>by simp[nC,Lib.compareBytes] at h
 | [],_::_,_::_,_,_=>by simp[nC,Lib.compareBytes]
 | _::_,[],_,h,_=>by simp[nC,Lib.compareBytes] at h
 | _::_,_::_,[],_,h=>by simp[nC,Lib.compareBytes] at h
 | a::x,b::y,c::z,h1,ah=>by
  unfold nC Lib.compareBytes at *
  by_cases Ew:a<b
  . by_cases An:b<c
    . simp[UInt8.lt_trans Ew An]
    . by_cases Ex:c<b
      . simp[An,Ex] at ah
      . have:b=c:=UInt8.le_antisymm (UInt8.not_lt.1 Ex) (UInt8.not_lt.1 An)
        subst this;simp[Ew]
  . by_cases pr:b<a
    . simp[Ew,pr] at h1
    . have:a=b:=UInt8.le_antisymm (UInt8.not_lt.1 pr) (UInt8.not_lt.1 Ew)
      subst this
      simp only[Ew,if_false] at h1
      by_cases An:a<c
      . simp[An]
      . by_cases Ex:c<a
        . simp[An,Ex] at ah
        . simp only[An,Ex,if_false] at ah ⊢
          exact lt_trans (a:=x) (b:=y) (c:=z) h1 ah
theorem lt_irrefl(a:aj):¬ nC a a:=by unfold nC;rw[Ev];omega
theorem acC{a b:aj}(h:¬ Lib.compareBytes a b<0)(aR:a≠b):nC b a:=by
 have h1:=SI b a;have ah:Lib.compareBytes a b≠0:=λe=>aR (cmp_eq e)
 unfold nC;omega
def oX(l:List aj):Prop:=l.Pairwise nC
theorem SJ:∀{l:List aj},rising l=true->oX l
 | [],_=>List.Pairwise.nil
 | [a],_=>by simp[oX]
 | a::b::r,h=>by
  simp only[rising,Bool.and_eq_true,decide_eq_true_eq] at h
  have cc:=SJ h.2
  refine List.Pairwise.cons (λx ag=>?_) cc
  rcases List.mem_cons.1 ag with rfl|ag
  . exact h.1
  . exact lt_trans h.1 (List.rel_of_pairwise_cons cc ag)
theorem SK:∀{l:List aj},oX l->rising l=true
 | [],_=>rfl
 | [a],_=>rfl
 | a::b::r,h=>by
  have gL:=List.pairwise_cons.1 h
  simp only[rising,Bool.and_eq_true,decide_eq_true_eq]
  exact⟨gL.1 b dh,SK gL.2⟩
theorem wc{l:List aj}(h:e6 l=0):l.length<=60/\(∀w∈l,word w=true)/\oX l:=by
 unfold e6 at h;split at h
 . omega
 . split at h
   . split at h
     . rename_i h1 ah aB;exact⟨by omega,λw hw=>List.all_eq_true.1 ah w hw,SJ aB⟩
     . omega
   . omega
end Go.ak
namespace Go.ak
open Go.aG
structure cd where
 rune:Int
 to:Int
 deriving DecidableEq,Repr
def e2(x:cd):List Value:=[.int .i32 x.rune,.int .i64 x.to]
theorem lu(x:cd):(e2 x).length=2:=rfl
theorem u1(x:cd):(e2 x).all (·.oneCell')=true:=rfl
def gf(s:aj):Nat:=(dec s).1
def l3(s:aj):Nat:=(dec s).2
def dF(s:aj):aj:=s.take (dec s).2
def eZ(p:aj)(l:List aj):List aj:=(l.takeWhile λt=>p.isPrefixOf t).map λt=>t.drop p.length
def l4(p:aj)(l:List aj):List aj:=l.dropWhile λt=>p.isPrefixOf t
def Ao:Nat->List aj->List (Nat×List aj)
 | 0,_=>[]
 | _+1,[]=>[]
 | n+1,s::r=>(gf s,eZ (dF s) (s::r))::Ao n (l4 (dF s) (s::r))
def ha(l:List aj):List (Nat×List aj):=Ao l.length l
theorem Ap(s:aj):(dF s).isPrefixOf s=true:=by
 rw[List.isPrefixOf_iff_prefix];exact List.take_prefix _ _
theorem Aq(s:aj)(r:List aj):(l4 (dF s) (s::r)).length<=r.length:=by
 unfold l4;rw[List.dropWhile_cons,if_pos (Ap s)];exact(List.dropWhile_suffix _).length_le
theorem SL:∀(n m:Nat) (l:List aj),l.length<=n->l.length<=m->Ao n l=Ao m l
 | 0,0,_,_,_=>rfl
 | 0,m+1,l,h,_=>by have:l=[]:=List.eq_nil_of_length_eq_zero aa;subst this;rfl
 | n+1,0,l,_,h=>by have:l=[]:=List.eq_nil_of_length_eq_zero aa;subst this;rfl
 | n+1,m+1,[],_,_=>rfl
 | n+1,m+1,s::r,h1,ah=>by
  have:=Aq s r
  simp only[List.length_cons] at h1 ah
  simp only[Ao]
  rw[SL n m _ aa aa]
theorem Ar:ha []=[]:=rfl
theorem Cj(s:aj)(r:List aj):ha (s::r)=(gf s,eZ (dF s) (s::r))::ha (l4 (dF s) (s::r)):=by
 have:=Aq s r;show Ao (r.length+1) (s::r)=_;simp only[Ao];rw[SL r.length _ _ this (Nat.le_refl _)];rfl
theorem SM(a b:UInt8)(s t:aj):Lib.compareBytes (a::s) (b::t)=if a<b then -1 else if b<a then 1 else Lib.compareBytes s t:=rfl
theorem acD(p s t:aj):Lib.compareBytes (p++s) (p++t)=Lib.compareBytes s t:=by
 induction p with
 | nil=>rfl
 | cons a p cc=>simp only[List.cons_append,SM];rw[if_neg dh,if_neg dh,cc]
theorem SN:∀(p a b u:aj),Lib.compareBytes (p++a) u<0->Lib.compareBytes u (p++b)<0->p.isPrefixOf u=true
 | [],_,_,_,_,_=>rfl
 | x::p,a,b,[],h,_=>by simp[Lib.compareBytes] at h
 | x::p,a,b,y::u,h1,ah=>by
  simp only[List.cons_append,SM] at h1 ah
  by_cases Ck:x<y
  . have:¬ y<x:=UInt8.lt_asymm Ck
    rw[if_neg this,if_pos Ck] at ah;omega
  . rw[if_neg Ck] at h1
    by_cases Ey:y<x
    . rw[if_pos Ey] at h1;omega
    . have e:x=y:=UInt8.le_antisymm (UInt8.not_lt.1 Ey) (UInt8.not_lt.1 Ck)
      subst e
      rw[if_neg Ey] at h1
      rw[if_neg Ey,if_neg Ey] at ah
      simp only[List.isPrefixOf,beq_self_eq_true,Bool.true_and]
      exact SN p a b u h1 ah
structure gv(l:List aj):Prop where
 sorted:oX l
 oY:∀s∈l,ix s
theorem gv.tail{s:aj}{r:List aj}(h:gv (s::r)):gv r:=⟨(List.pairwise_cons.1 h.sorted).2,λt a_=>h.oY t (by simp[a_])⟩
theorem LW{l m:List aj}(h:oX l)(aT:m <:+ l):oX m:=h.sublist aT.sublist
theorem gv.more{l:List aj}(h:gv l)(p:aj):gv (l4 p l):=
 ⟨LW h.sorted (List.dropWhile_suffix _),λt a_=>h.oY t ((List.dropWhile_suffix _).subset a_)⟩
theorem HF{α:Type}{p:α->Bool}:∀{l:List α} {x:α},x∈l.takeWhile p->p x=true/\x∈l
 | [],x,h=>by simp at h
 | y::l,x,h=>by
  rw[List.takeWhile_cons] at h
  split at h
  . rename_i aE
    rcases List.mem_cons.1 h with rfl|h
    . exact⟨aE,by simp⟩
    . exact⟨(HF h).1,by simp[(HF h).2]⟩
  . simp at h
theorem Cl{p t:aj}(h:p.isPrefixOf t=true):t=p++t.drop p.length:=by
 rw[List.isPrefixOf_iff_prefix] at h;obtain⟨u,rfl⟩:=h;simp
theorem SO{p:aj}{l:List aj}{t:aj}(h:t∈eZ p l):p++t∈l:=by
 unfold eZ at h;obtain⟨u,hu,rfl⟩:=List.mem_map.1 h;have:=HF hu;rw[<-Cl this.1];exact this.2
theorem Ez(p:aj)(l:List aj):(eZ p l).map (p++·)++l4 p l=l:=by
 unfold eZ l4;rw[List.map_map]
 have:(l.takeWhile λt=>p.isPrefixOf t).map ((p++·) ∘ λt=>t.drop p.length)=l.takeWhile λt=>p.isPrefixOf t:=by
  conv=>rhs;rw[<-List.map_id (l.takeWhile λt=>p.isPrefixOf t)]
  exact List.map_congr_left λt a_=>(Cl (HF a_).1).symm
 rw[this,List.takeWhile_append_dropWhile]
theorem acE{s:aj}{r:List aj}(h:gv (s::r)){p:aj}(hp:p.isPrefixOf s=true):∀t∈l4 p (s::r),p.isPrefixOf t=false:=by
 intro t a_
 cases ab:p.isPrefixOf t with
 | false=>rfl
 | true =>
  exfalso;have aT:l4 p (s::r) <:+ s::r:=List.dropWhile_suffix _
  cases hm:l4 p (s::r) with
  | nil=>rw[hm] at a_;simp at a_
  | cons u m =>
   have hu:p.isPrefixOf u=false:=by
    have:=List.head?_dropWhile_not (λt=>p.isPrefixOf t) (s::r)
    unfold l4 at hm
    rw[hm] at this
    simpa using this
   rw[hm] at a_;have EA:=LW h.sorted aT;rw[hm] at EA;have acF:u≠s:=λe=>by rw[e,hp] at hu;cases hu
   have acG:u∈s::r:=aT.subset (by rw[hm];simp)
   have h1:nC s u:=by
    rcases List.mem_cons.1 acG with e|e
    . exact absurd e acF
    . exact(List.pairwise_cons.1 h.sorted).1 u e
   rcases List.mem_cons.1 a_ with rfl|a_
   . rw[ab] at hu;cases hu
   . have ah:nC u t:=(List.pairwise_cons.1 EA).1 t a_;have fU:=Cl hp;have je:=Cl ab;have:=SN p (s.drop p.length) (t.drop p.length) u (by rw[<-fU];exact h1) (by rw[<-je];exact ah);rw[this] at hu;cases hu
theorem SP{s:aj}{r:List aj}(h:gv (s::r))(aT:s≠[]):gv (eZ (dF s) (s::r)):=by
 have qX:=(h.oY s dh).split aT;have hp:dF s=en (gf s):=(yI aT ((yJ aT).1 (h.oY s dh)).1).2.symm;refine⟨?_,λt a_=>?_⟩
 . have:oX ((eZ (dF s) (s::r)).map (dF s++·)):=h.sorted.sublist (by
    conv=>rhs;rw[<-Ez (dF s) (s::r)]
    exact List.sublist_append_left _ _)
   unfold oX at this ⊢;rw[List.pairwise_map] at this;exact this.imp λ{a b} mI=>by unfold nC at mI ⊢;rwa[acD] at mI
 . have hm:=h.oY _ (SO a_);rw[hp] at hm;have ah:=(yJ (by simp[LS]):ix (en (gf s)++t)↔_).1 hm;have e:=LQ qX.1 t;unfold gf at ah;rw[e] at ah;simpa using ah.2
structure acH(l:List aj)(gs:List (Nat×List aj)):Prop where
 all:gs.flatMap (λg=>g.2.map (en g.1++·))=l
 fQ:∀g∈gs,kN g.1/\g.2≠[]/\gv g.2
 part:gs.Pairwise λa b=>a.1≠b.1
theorem xu:∀(n:Nat) (l:List aj),l.length<=n->gv l->(∀s∈l,s≠[])->acH l (ha l)
 | _,[],_,_,_=>⟨rfl,by simp[Ar],by simp[Ar]⟩
 | 0,s::r,h,_,_=>by simp at h
 | n+1,s::r,aR,h,dL=>by
  have bl:=Aq s r
  simp only[List.length_cons] at aR
  have aT:=dL s dh
  have bD:=h.oY s dh
  have qX:=bD.split aT
  have hp:dF s=en (gf s):=(yI aT ((yJ aT).1 bD).1).2.symm
  have cc:=xu n (l4 (dF s) (s::r)) aa (h.more _) (λt a_=>dL t ((List.dropWhile_suffix _).subset a_))
  rw[Cj]
  refine⟨?_,?_,?_⟩
  . simp only[List.flatMap_cons]
    rw[cc.all,<-hp,Ez]
  . intro g aV
    rcases List.mem_cons.1 aV with rfl|aV
    . refine⟨qX.1,?_,SP h aT⟩
      unfold eZ
      rw[List.takeWhile_cons,if_pos (Ap s)];simp
    . exact cc.fQ g aV
  . refine List.pairwise_cons.2 ⟨λg aV e=>?_,cc.part⟩
    have acI:=cc.fQ g aV
    obtain⟨t,a_⟩:∃t,t∈g.2:=by
     cases eJ:g.2 with
     | nil=>exact absurd eJ acI.2.1
     | cons t _=>exact⟨t,by simp⟩
    have hm:en g.1++t∈l4 (dF s) (s::r):=by
     rw[<-cc.all]
     exact List.mem_flatMap.2 ⟨g,aV,List.mem_map.2 ⟨t,a_,rfl⟩⟩
    have:=acE h (Ap s) _ hm
    rw[hp,<-e] at this
    have acJ:(en (gf s)).isPrefixOf (en (gf s)++t)=true:=by rw[List.isPrefixOf_iff_prefix];exact List.prefix_append _ _
    simp only at this
    rw[acJ] at this;cases this
abbrev c9:=List (List aj×List cd)
def fG:List aj->List aj
 | []::r=>r
 | l=>l
def lM(add:c9->List aj->c9×Nat):c9->List (Nat×List aj)->c9×List cd
 | s,[]=>(s,[])
 | s,g::gs=>((lM add (add s g.2).1 gs).1,⟨(g.1:Int),((add s g.2).2:Int)⟩::(lM add (add s g.2).1 gs).2)
def e3:Nat->c9->List aj->c9×Nat
 | 0,s,_=>(s,0)
 | f+1,s,aI =>
  match s.findIdx? λx=>x.1==aI with
  | some i=>(s,i)
  | none=>((lM (e3 f) (s++[(aI,[])]) (ha (fG aI))).1.set s.length (aI,(lM (e3 f) (s++[(aI,[])]) (ha (fG aI))).2),s.length)
def s5(words:List aj):c9:=(e3 13 [] words).1
def oZ(s:c9)(x:List aj×List cd):Prop:=c3 (λg e=>e.rune=(g.1:Int)/\∃(j:Nat) (es:List cd),e.to=(j:Int)/\s[j]?=some (g.2,es)) (ha (fG x.1)) x.2
def Deep(n:Nat)(l:List aj):Prop:=∀t∈l,(hg t).length<=n
structure As(s:c9)(n:Nat)(x:List aj×List cd):Prop where
 we:oZ s x
 fQ:gv x.1
 ne:x.1≠[]
 deep:Deep n x.1
def names(s:c9):List (List aj):=s.map Prod.fst
theorem acK{s:c9}{r:List aj}{i:Nat}(h:(s.findIdx? λx=>x.1==r)=some i):∃es,s[i]?=some (r,es):=by
 obtain⟨h1,ah,_⟩:=List.findIdx?_eq_some_iff_getElem.1 h;refine⟨s[i].2,?_⟩;rw[List.getElem?_eq_getElem h1];have:s[i].1=r:=by simpa using ah
 rw[<-this]
theorem LX{s:c9}{r:List aj}(h:(s.findIdx? λx=>x.1==r)=none):r∉names s:=by
 intro hm;obtain⟨x,ag,rfl⟩:=List.mem_map.1 hm;have:=List.findIdx?_eq_none_iff.1 h x ag;simp at this
theorem u2{l:List aj}(h:gv l):gv (fG l)/\(∀s∈fG l,s≠[]):=by
 cases l with
 | nil=>exact⟨h,by simp[fG]⟩
 | cons a r =>
  cases a with
  | nil =>
   refine⟨h.tail,λs aT e=>?_⟩;have:=(List.pairwise_cons.1 h.sorted).1 s aT;subst e;exact lt_irrefl _ this
  | cons x a =>
   refine⟨h,λs aT e=>?_⟩;subst e;rcases List.mem_cons.1 aT with e|aT
   . cases e
   . have:=(List.pairwise_cons.1 h.sorted).1 _ aT;simp[nC,Lib.compareBytes] at this
theorem Au{l:List aj}{t:aj}(h:t∈fG l):t∈l:=by
 cases l with
 | nil=>exact h
 | cons a r =>
  cases a with
  | nil=>exact List.mem_cons_of_mem _ h
  | cons x a=>exact h
theorem SQ{n:Nat}{l:List aj}(aV:gv l)(h:Deep (n+1) l):∀g∈ha (fG l),Deep n g.2:=by
 intro g iM t a_;have hd:=u2 aV;have ok:=xu _ _ (Nat.le_refl _) hd.1 hd.2
 have hm:en g.1++t∈fG l:=by
  rw[<-ok.all]
  exact List.mem_flatMap.2 ⟨g,iM,List.mem_map.2 ⟨t,a_,rfl⟩⟩
 have:=h _ (Au hm);rw[wb (ok.fQ g iM).1] at this;simp only[List.length_cons] at this;omega
theorem oZ.grow{s jT:c9}{x:List aj×List cd}(h:oZ s x)(aT:∀(j:Nat) (r:List aj) (es:List cd),s[j]?=some (r,es)->∃rG,jT[j]?=some (r,rG)):oZ jT x:=
 c3.imp (λg e ⟨h1,j,es,ah,aB⟩=>⟨h1,j,(aT j _ _ aB).choose,ah,(aT j _ _ aB).choose_spec⟩) h
theorem As.grow{s jT:c9}{n m:Nat}{x:List aj×List cd}(h:As s n x)(aT:∀(j:Nat) (r:List aj) (es:List cd),s[j]?=some (r,es)->∃rG,jT[j]?=some (r,rG))(hm:n<=m):As jT m x:=
 ⟨h.we.grow aT,h.fQ,h.ne,λt a_=>Nat.le_trans (h.deep t a_) hm⟩
theorem acL(s t:c9):∀(j:Nat) (r:List aj) (es:List cd),s[j]?=some (r,es)->∃rG,(s++t)[j]?=some (r,rG):=λj r es h=>⟨es,by rw[List.getElem?_append_left (List.getElem?_eq_some_iff.1 h).1];exact h⟩
structure SR(n:Nat)(s:c9)(aI:List aj)(q:c9×Nat):Prop where
 tail:∃t,q.1=s++t/\∀x∈t,As q.1 n x
 here:∃es,q.1[q.2]?=some (aI,es)
 apart:(names q.1).Nodup
structure SS(n:Nat)(s:c9)(gs:List (Nat×List aj))(q:c9×List cd):Prop where
 tail:∃t,q.1=s++t/\∀x∈t,As q.1 n x
 yK:c3 (λg e=>e.rune=(g.1:Int)/\∃(j:Nat) (es:List cd),e.to=(j:Int)/\q.1[j]?=some (g.2,es)) gs q.2
 apart:(names q.1).Nodup
theorem SU{n:Nat}{add:c9->List aj->c9×Nat}:∀(gs:List (Nat×List aj)) (s:c9),(∀g∈gs,∀s,(names s).Nodup->SR n s g.2 (add s g.2))->(names s).Nodup->SS n s gs (lM add s gs)
 | [],s,_,hd=>⟨⟨[],by simp[lM],by simp⟩,.nil,hd⟩
 | g::gs,s,SV,hd=>by
  have h1:=SV g dh s hd
  have ah:=SU gs (add s g.2).1 (λfz s6=>SV fz (by simp[s6])) h1.apart
  obtain⟨t1,fU,bt⟩:=h1.tail
  obtain⟨t2,je,cD⟩:=ah.tail
  refine⟨⟨t1++t2,?_,?_⟩,?_,ah.apart⟩
  . show(lM add (add s g.2).1 gs).1=_
    rw[je,fU,List.append_assoc]
  . intro x ag
    show As (lM add (add s g.2).1 gs).1 n x
    rcases List.mem_append.1 ag with ag|ag
    . rw[je]
      exact(bt x ag).grow (acL _ _) (Nat.le_refl _)
    . exact cD x ag
  . refine .cons ⟨rfl,(add s g.2).2,?_⟩ ah.yK
    obtain⟨es,he⟩:=h1.here
    refine⟨es,rfl,?_⟩
    show(lM add (add s g.2).1 gs).1[_]?=_
    rw[je,List.getElem?_append_left (List.getElem?_eq_some_iff.1 he).1];exact he
theorem acM{s:c9}{i:Nat}{r:List aj}{es rG:List cd}(h:s[i]?=some (r,es)):names (s.set i (r,rG))=names s:=by
 unfold names;rw[List.map_set];refine List.ext_getElem? λj=>?_
 rw[List.getElem?_set];split
 . rename_i mX;subst mX;have hP:=(List.getElem?_eq_some_iff.1 h).1;rw[if_pos (by simpa using hP),List.getElem?_map,h];rfl
 . rfl
theorem Av:∀(f:Nat) (s:c9) (aI:List aj),Deep f aI->gv aI->aI≠[]->(names s).Nodup->SR f s aI (e3 (f+1) s aI)
 | f,s,aI,hd,aV,dL,aR=>by
  unfold e3
  cases ar:s.findIdx? λx=>x.1==aI with
  | some i=>exact⟨⟨[],by simp,by simp⟩,acK ar,aR⟩
  | none =>
   simp only
   have fX:=LX ar
   have nd:(names (s++[(aI,[])])).Nodup:=by
    unfold names
    rw[List.map_append,List.nodup_append]
    refine⟨aR,by simp,λa ay b ab=>?_⟩
    simp only[List.map_cons,List.map_nil,List.mem_singleton] at ab
    subst ab
    exact λe=>fX (by rw[<-e];exact ay)
   have Aw:=u2 aV
   have ok:=xu _ _ (Nat.le_refl _) Aw.1 Aw.2
   have HG:SS (f-1) (s++[(aI,[])]) (ha (fG aI)) (lM (e3 f) (s++[(aI,[])]) (ha (fG aI))):=by
    refine SU _ _ (λg iM jT Ac=>?_) nd
    cases f with
    | zero =>
     exfalso
     obtain⟨t,a_⟩:∃t,t∈g.2:=by
      cases eJ:g.2 with
      | nil=>exact absurd eJ (ok.fQ g iM).2.1
      | cons t _=>exact⟨t,by simp⟩
     have hm:en g.1++t∈fG aI:=by
      rw[<-ok.all]
      exact List.mem_flatMap.2 ⟨g,iM,List.mem_map.2 ⟨t,a_,rfl⟩⟩
     have:=hd _ (Au hm)
     rw[wb (ok.fQ g iM).1] at this
     simp at this
    | succ f =>
     have h1:=Av f jT g.2 (SQ aV hd g iM) (ok.fQ g iM).2.2 (ok.fQ g iM).2.1 Ac
     exact h1
   generalize lM (e3 f) (s++[(aI,[])]) (ha (fG aI))=q at HG
   obtain⟨t,fU,bt⟩:=HG.tail
   have m':q.1[s.length]?=some (aI,[]):=by rw[fU];simp
   have acN:q.1.set s.length (aI,q.2)=s++(aI,q.2)::t:=by
    rw[fU,List.append_assoc,List.set_append_right _ _ (Nat.le_refl _)]
    simp
   have p1:∀(j:Nat) (r:List aj) (es:List cd),q.1[j]?=some (r,es)->∃rG,(q.1.set s.length (aI,q.2))[j]?=some (r,rG):=by
    intro j r es bo
    by_cases oA:s.length=j
    . subst oA
      rw[m'] at bo
      simp only[Option.some.injEq,Prod.mk.injEq] at bo
      refine⟨q.2,?_⟩
      rw[List.getElem?_set_self (List.getElem?_eq_some_iff.1 m').1,bo.1]
    . exact⟨es,by rw[List.getElem?_set_ne oA];exact bo⟩
   refine⟨⟨(aI,q.2)::t,acN,λx ag=>?_⟩,⟨q.2,?_⟩,?_⟩
   . rcases List.mem_cons.1 ag with rfl|ag
     . refine⟨?_,aV,dL,hd⟩
       exact c3.imp (λg e ⟨h1,j,es,ah,aB⟩=>⟨h1,j,(p1 j _ _ aB).choose,ah,(p1 j _ _ aB).choose_spec⟩) HG.yK
     . exact(bt x ag).grow p1 aa
   . show(q.1.set s.length (aI,q.2))[s.length]?=_
     rw[List.getElem?_set_self (List.getElem?_eq_some_iff.1 m').1]
   . show(names (q.1.set s.length (aI,q.2))).Nodup
     rw[acM m'];exact HG.apart
structure SX(s:c9)(words:List aj):Prop where
 root:∃es,s[0]?=some (words,es)
 node:∀x∈s,As s 12 x
 apart:(names s).Nodup
theorem Cm{words:List aj}(hd:Deep 12 words)(aV:gv words)(dL:words≠[]):SX (s5 words) words:=by
 have h:=Av 12 [] words hd aV dL (by simp[names]);obtain⟨t,e,k⟩:=h.tail
 have s7:(e3 13 [] words).2=0:=by
  unfold e3;simp
 refine⟨?_,λx ag=>?_,h.apart⟩
 . have:=h.here;rw[s7] at this;exact this
 . unfold s5 at ag ⊢;rw[e] at ag;exact k x uU
theorem s8{l:List aj}(h:e6 l=0):gv l/\Deep 12 l:=by
 have hw:=wc h;exact⟨⟨hw.2.2,λs aT=>(LV (hw.2.1 s aT)).1⟩,λs aT=>(LV (hw.2.1 s aT)).2.2⟩
end Go.ak
namespace Go.aG
open Go
section
variable {α:Type} {enc:α->List Value} {e:TypeId} {sz:Nat} {w:World} {g:Nat} {v:Value} {l:List α}
theorem SY(dN:∀x,(enc x).length=sz):∀(l:List α) (i:Nat) (x:α) (h:i<l.length),(l.set i x).flatMap enc=(l.flatMap enc).take (i*sz)++enc x++(l.flatMap enc).drop (i*sz+sz)
 | y::l,0,x,_=>by
  have fU:(enc y++l.flatMap enc).drop sz=l.flatMap enc:=by rw[<-dN y];exact List.drop_left
  simp only[List.set_cons_zero,List.flatMap_cons,Nat.zero_mul,List.take_zero,List.nil_append,Nat.zero_add,fU]
 | y::l,i+1,x,h=>by
  have cc:=SY dN l i x (by simpa using h)
  have fU:(i+1)*sz=(enc y).length+i*sz:=by rw[dN,Nat.add_mul];omega
  have je:(i+1)*sz+sz=(enc y).length+(i*sz+sz):=by rw[fU,Nat.add_assoc]
  simp only[List.set_cons_succ,List.flatMap_cons]
  rw[fU,Nat.add_assoc,List.take_append,List.drop_append,List.take_of_length_le aa,List.drop_of_length_le aa,Nat.add_sub_cancel_left,Nat.add_sub_cancel_left,cc]
  simp
theorem Acc.at(h:Acc enc e sz w g v l){P:Program}{t:TypeId}{by_:Nat}{fT:Bool}{z:List Value}(a_:P.underlying t=some (.slice e))(he:ey P e=some (fT,sz,by_,z)){k:IntKind}{n:Int}(i:Nat)(aR:n=(i:Int))(ar:i<l.length):
 (∀w,(Instr.indexAt t v (.int k n)).run P w=.ok (ptr (g-1) (i*sz)) w)/\∃x,l[i]?=some x:=by
 rcases h with ⟨_,rfl,_⟩|⟨b,cap,cur,rfl,rfl,ah,aB,bH,c_,e1⟩
 . simp at ar
 . refine⟨λw=>?_,l[i],by simp[ar]⟩;have bK:(0:Int)<=n/\n<(l.length:Int):=(by omega);have fU:n.toNat=i:=(by omega);simp[Instr.indexAt,asIntOf,run_underlying a_,bK,run_sizeOf he,add_lit,ptr,fU]
theorem gB.nD{P:Program}{E:Env}{d:Option Tmp}{ty:TypeId}{pos:String}{af:Array Edge}{gd:Option (Nat×Bool)}{K:Value->World->Prop}{t:TypeId}{x y:Operand}{u:Value}{off n by_:Nat}{fT:Bool}{z vs:List Value}
 (h:Acc enc e sz w g v l) (dN:∀x,(enc x).length=sz) {i o:Nat} {n3:α} (hold:l[i]?=some n3) (qY:α) (a_:ey P t=some (fT,n,by_,z)) (ag:aO E x=some (ptr (g-1) off)) (tU:off=i*sz+o) (aE:aO E y=some u)
 (cK:u.cells.toList=vs) (aR:vs.length=n) (h1:vs.all (·.oneCell')=true) (eh:o+n<=sz) (acO:enc qY=(enc n3).take o++vs++(enc n3).drop (o+n))
 (eU:∀ao,Mod (b3 g) w ao->ao.heap.size=w.heap.size->Acc enc e sz ao g v (l.set i qY)->K undef ao):gB P ⟨d,.store t x y,ty,pos,af,gd⟩ E w K:=λa ay=>by
 obtain⟨ar,rfl⟩:=List.getElem?_eq_some_iff.1 hold
 subst tU
 rcases h with ⟨_,rfl,_⟩|⟨b,cap,cur,rfl,rfl,ah,aB,bH,c_,e1⟩
 . simp at ar
 . have tJ:=rA dN l
   have na:i*sz+sz<=l.length*sz:=by
    have:=Nat.mul_le_mul_right sz (show i+1<=l.length by omega)
    rw[Nat.add_mul] at this;omega
   have acP:l.length*sz<=cap*sz:=Nat.mul_le_mul_right _ aB
   simp only[Nat.add_sub_cancel] at ag
   have mH:=run_storeCells_at P b (i*sz+o) e vs 0 cur w ah aa (λu hu=>List.all_eq_true.1 h1 u hu)
   have acQ:u.cells.size=n:=by rw[<-Array.length_toList,cK];exact aR
   have key:=SY dN l i qY ar
   have Hp:=(Hi dN l i ar).1
   have h:=eU (w.setRow b (cur.toList.take (i*sz+o)++vs++cur.toList.drop (i*sz+o+n)).toArray) ((Hj _ _ _).weaken (λi ar _=>by unfold b3;omega)) (by simp[World.setRow]) (.inr ⟨b,cap,_,rfl,by simp,setRow_heap w b cur _ e (0,0) ah,by simpa using aB,bH,by simp;omega,by
    rw[List.length_set,key,acO]
    have hQ:cur.toList.length=cap*sz:=by simpa using c_
    have fU:(l.flatMap enc).take (i*sz)=cur.toList.take (i*sz):=by
     rw[<-e1,List.take_take,Nat.min_eq_left aa]
    have je:(enc l[i]).take o=(cur.toList.drop (i*sz)).take o:=by
     rw[<-Hp,List.take_take,Nat.min_eq_left aa,<-e1,List.drop_take,List.take_take,Nat.min_eq_left aa]
    have tN:(enc l[i]).drop (o+n)=(cur.toList.drop (i*sz+(o+n))).take (sz-(o+n)):=by
     rw[<-Hp,<-e1,List.drop_take,List.drop_drop,List.drop_take,List.take_take,Nat.min_eq_left aa]
    have EB:(l.flatMap enc).drop (i*sz+sz)=(cur.toList.drop (i*sz+sz)).take (l.length*sz-(i*sz+sz)):=by
     rw[<-e1,List.drop_take]
    rw[fU,je,tN,EB]
    have LY:cur.toList.take (i*sz+o)=cur.toList.take (i*sz)++(cur.toList.drop (i*sz)).take o:=by rw[List.take_add]
    have LZ:(cur.toList.drop (i*sz+o+n)).take (l.length*sz-(i*sz+o+n))=(cur.toList.drop (i*sz+(o+n))).take (sz-(o+n))++(cur.toList.drop (i*sz+sz)).take (l.length*sz-(i*sz+sz)):=by
     have:l.length*sz-(i*sz+o+n)=(sz-(o+n))+(l.length*sz-(i*sz+sz)):=by omega
     rw[this,List.take_add,List.drop_drop]
     congr 3<;>omega
    rw[List.toList_toArray]
    rw[List.take_append,List.take_of_length_le (by simp;omega)]
    have L0:l.length*sz-(cur.toList.take (i*sz+o)++vs).length=l.length*sz-(i*sz+o+n):=by
     simp only[List.length_append,List.length_take,hQ];omega
    rw[L0,LZ,LY]
    simp only[List.append_assoc]⟩)
   simp only[Nat.add_zero,aR] at mH
   simp[execOp,ay.aO ag,ay.aO aE,ptr,Instr.storeAt,Instr.sureAddr,storeVar,run_sizeOf a_,acQ,cK,mH,out]
   simpa using h
theorem Acc.shape(h:Acc enc e sz w g v l):∃a c,v=.slice a l.length c:=by
 obtain⟨a,c,h1,_⟩:=h.cj;exact⟨a,c,h1⟩
theorem Acc.cast{jU:List α}(h:Acc enc e sz w g v l)(ny:l=jU):Acc enc e sz w g v jU:=ny▸h
theorem SZ(z:List Value)(cO:0<z.length):∀n:Nat,(madeCells z.toArray (n*z.length)).toList=(List.replicate n z).flatten
 | 0=>by simp[madeCells]
 | n+1=>by
  have cc:=SZ z cO n
  rw[List.replicate_succ',List.flatten_append,<-cc]
  unfold madeCells
  simp only[List.size_toArray,Array.toList_map,Array.toList_range,Nat.add_mul,Nat.one_mul,List.flatten_cons,List.flatten_nil,List.append_nil]
  rw[List.range_add,List.map_append]
  congr 1
  rw[List.map_map]
  refine List.ext_getElem dh λi h1 ah=>?_
  simp only[List.length_map,List.length_range] at h1
  simp[Nat.mod_eq_of_lt h1,h1]
theorem gB.makeSlice{P:Program}{E:Env}{d:Option Tmp}{ty:TypeId}{pos:String}{af:Array Edge}{gd:Option (Nat×Bool)}{K:Value->World->Prop}{t:TypeId}{x y:Operand}{S0 HH:IntKind}{by_:Nat}{fT:Bool}{z:List Value}
 (n:Nat) (Cn:α) (a_:P.underlying t=some (.slice e)) (he:ey P e=some (fT,sz,by_,z)) (bK:0<sz) (yL:enc Cn=z) (dN:∀x,(enc x).length=sz) {p q:Int} (ag:aO E x=some (.int S0 p)) (aE:aO E y=some (.int HH q)) (hp:p=(n:Int)) (dM:q=(n:Int)) (ab:n*by_<=140737488355328) (hm:n<=maxLen)
 (eU:∀gT fz ao,Ext w ao->fz=w.heap.size+1->ao.heap.size=w.heap.size+1->Acc enc e sz ao fz gT (List.replicate n Cn)->K gT ao) :
 gB P ⟨d,.makeSlice t x y,ty,pos,af,gd⟩ E w K:=λa ay=>by
 subst hp dM
 obtain⟨i,jF,jS,rD,i2,i3,i4,i5,Eg,RN⟩:=B6 he
 have EC:(n:Int)<=9223372036854775807:=by have:n<=9223372036854775807:=hm;omega
 have S1:(i.bytes:Int)*(n:Int)<=281474976710656:=by
  rw[i5]
  have:((n*by_:Nat):Int)<=140737488355328:=by omega
  rw[Int.natCast_mul,Int.mul_comm] at this;omega
 have a':=run_make (P:=P) w t e i jS a_ rD i3 S0 HH (n:Int) (n:Int) aa (Int.le_refl _) S1 EC
 simp only[Int.toNat_natCast] at a'
 have vV:z.length=sz:=by rw[<-yL];exact dN _
 have fU:jS.cells=z.toArray:=by rw[<-Eg]
 have al:(madeCells jS.cells (n*i.size)).toList=(List.replicate n z).flatten:=by
  rw[fU,i4,<-vV];exact SZ z aa n
 have h:=eU _ _ (w.alloc (.cells (madeCells jS.cells (n*i.size)) e)) (Mod.alloc _ _ _) rfl dh (.inr ⟨w.heap.size,n,_,rfl,rfl,heap_alloc_new w _,by simp,hm,by rw[size_madeCells,i4],by
  rw[List.length_replicate,al]
  have:(List.replicate n z).flatten=(List.replicate n Cn).flatMap enc:=by
   rw[List.flatMap_def,List.map_replicate,yL]
  rw[this,List.take_of_length_le]
  rw[rA dN,List.length_replicate];exact Nat.le_refl _⟩)
 simp only[List.length_replicate] at h
 simp[execOp,ay.aO ag,ay.aO aE,a',out]
 exact h
section
variable {P:Program} {E:Env} {d:Option Tmp} {ty:TypeId} {pos:String} {af:Array Edge} {gd:Option (Nat×Bool)} {K:Value->World->Prop} {t:TypeId} {x y:Operand} {by_:Nat} {fT:Bool} {z:List Value}
theorem arp.at{b:Nat}(k:IntKind)(nl n:Nat)(a_:P.underlying t=some (.slice e))(he:ey P e=some (fT,sz,by_,z)){p:Int}(i:Nat)(hp:p=(i:Int))(ar:i<n):∀w,(Instr.indexAt t (.slice (some ⟨b,nl*sz,none⟩) n n) (.int k p)).run P w=.ok (ptr b (nl*sz+i*sz)) w:=λw=>by
 have bK:(0:Int)<=p/\p<(n:Int):=by omega
 have fU:p.toNat=i:=by omega
 simp[Instr.indexAt,asIntOf,run_underlying a_,bK,run_sizeOf he,add_lit,ptr,fU]
end
end
end Go.aG
set_option linter.unusedSectionVars false
namespace Go.aG
open Go
section
variable {P:Program} {E:Env} {C:World->Prop} {d:Option Tmp} {ty:TypeId} {pos:String} {af:Array Edge} {gd:Option (Nat×Bool)} {w:World} {K:Value->World->Prop}
theorem S2(op:BinOp)(t:TypeId)(x y:Operand)(w:World)(a b:Option Addr):(eqGuard op t x y (.pointer a) (.pointer b)).run P w=.ok () w:=by
 unfold eqGuard;split<;>simp
theorem bA.l5{xt yt e:TypeId}{x y:Operand}{a:Option Addr}(hu:P.underlying xt=some (.pointer e))(ag:aO E x=some (.pointer a))(aE:aO E y=some (.pointer none)):bA P ⟨d,.binOp .eql xt x y yt,ty,pos,af,gd⟩ E C (.bool a.isNone):=λs ay w _=>by
 have h:(Op.equal xt (.pointer a) (.pointer none)).run P w=.ok a.isNone w:=by
  have key:∀n,(Op.equalIn (n+1) xt (.pointer a) (.pointer none)).run P w=.ok a.isNone w:=λn=>by
   cases a<;>simp[Op.equalIn,run_underlying hu]
  exact key 9999
 simp[execOp,ay.aO ag,ay.aO aE,S2,Go.binOp,h]
theorem bA.HI{xt yt e:TypeId}{x y:Operand}{a:Option Addr}(hu:P.underlying xt=some (.pointer e))(ag:aO E x=some (.pointer a))(aE:aO E y=some (.pointer none)):bA P ⟨d,.binOp .neq xt x y yt,ty,pos,af,gd⟩ E C (.bool (!a.isNone)):=λs ay w _=>by
 have h:(Op.equal xt (.pointer a) (.pointer none)).run P w=.ok a.isNone w:=by
  have key:∀n,(Op.equalIn (n+1) xt (.pointer a) (.pointer none)).run P w=.ok a.isNone w:=λn=>by
   cases a<;>simp[Op.equalIn,run_underlying hu]
  exact key 9999
 simp[execOp,ay.aO ag,ay.aO aE,S2,Go.binOp,h]
theorem bA.acR{x:Operand}{b off:Nat}(ag:aO E x=some (ptr b off)):bA P ⟨d,.nilCheck x,ty,pos,af,gd⟩ E C (ptr b off):=λa ay w _=>by
 simp[execOp,ay.aO ag,ptr]
theorem bA.Co{xt yt:TypeId}{x y:Operand}{xs ys:Array Value}{q:Bool}(aV:P.eqGuardType P.depth xt=false)(dM:∀w,(Op.equalIn 10000 xt (.agg xs) (.agg ys)).run P w=.ok q w)(ag:aO E x=some (.agg xs))(aE:aO E y=some (.agg ys)):bA P ⟨d,.binOp .eql xt x y yt,ty,pos,af,gd⟩ E C (.bool q):=λa ay w _=>by
 simp[execOp,ay.aO ag,ay.aO aE,run_eqGuard_agg _ _ _ _ _ _ _ aV,run_eql_struct,dM w,Result.andThen]
theorem bA.L3{xt yt:TypeId}{x y:Operand}{xs ys:Array Value}{q:Bool}(aV:P.eqGuardType P.depth xt=false)(dM:∀w,(Op.equalIn 10000 xt (.agg xs) (.agg ys)).run P w=.ok q w)(ag:aO E x=some (.agg xs))(aE:aO E y=some (.agg ys)):bA P ⟨d,.binOp .neq xt x y yt,ty,pos,af,gd⟩ E C (.bool (!q)):=λa ay w _=>by
 simp[execOp,ay.aO ag,ay.aO aE,run_eqGuard_agg _ _ _ _ _ _ _ aV,run_neq_struct,dM w,Result.andThen]
theorem bA.field{xt:TypeId}{x:Operand}{i:Nat}{vs:Array Value}{v:Value}(ag:aO E x=some (.agg vs))(a':∀w,(Instr.field xt (.agg vs) i).run P w=.ok v w):bA P ⟨d,.field xt x i,ty,pos,af,gd⟩ E C v:=λa ay w _=>by
 simp[execOp,ay.aO ag,a' w]
theorem bA.makeFunc{fn:Fn}{lr cs:Array Operand}{first cap:List Value}(h1:qV E lr.toList=some first)(ah:qV E cs.toList=some cap):bA P ⟨d,.makeFunc fn lr cs,ty,pos,af,gd⟩ E C (.func fn first.toArray cap.toArray):=λa ay w _=>by
 have fU:lr.map a.eval=first.toArray:=by
  apply Array.ext';simpa using ay.qV h1
 have je:cs.map a.eval=cap.toArray:=by
  apply Array.ext';simpa using ay.qV ah
 simp[execOp,Instr.makeFunc,fU,je]
section
variable {α β:Type} [DecidableEq α] {key:α->Value} {val:β->Value} {kind:TypeDesc}
def nf(key:α->Value)(val:β->Value)(w:World)(b:Nat)(m:List (α×β)):Prop:=
 ∃es clock,w.heap[b]?=some (.map es clock)/\es.toList.map (λe=>(e.key,e.val))=m.map λp=>(key p.1,val p.2)
theorem nf.ext{ao:World}{b:Nat}{m:List (α×β)}(h:nf key val w b m)(hm:Ext w ao):nf key val ao b m:=by
 obtain⟨es,c,h1,ah⟩:=h;exact⟨es,c,hm.keep _ _ h1 (λx=>x),ah⟩
theorem nf.lt{b:Nat}{m:List (α×β)}(h:nf key val w b m):b<w.heap.size:=by
 obtain⟨es,c,h1,ah⟩:=h;exact(Array.getElem?_eq_some_iff.1 h1).1
def gw(m:List (α×β))(a:α):Option β:=(m.find? λp=>decide (p.1=a)).map Prod.snd
theorem S3(aT:∀a b:α,Instr.sameNow kind (key a) (key b)=some (decide (a=b)))(a:α):∀(es:List MapEntry) (m:List (α×β)) (i:Nat),es.map (λe=>(e.key,e.val))=m.map (λp=>(key p.1,val p.2)) ->
 ∃j,Instr.findNow kind (key a) es i=some ((gw m a).map λx=>(j,val x))
 | [],m,i,h=>by
  cases m with
  | nil=>exact⟨0,rfl⟩
  | cons _ _=>simp at h
 | e::es,m,i,h=>by
  cases m with
  | nil=>simp at h
  | cons p m =>
   simp only[List.map_cons,List.cons.injEq,Prod.mk.injEq] at h
   obtain⟨⟨h1,ah⟩,aB⟩:=h
   unfold Instr.findNow
   rw[h1,aT a p.1]
   by_cases hp:a=p.1
   . refine⟨i,?_⟩
     simp[hp,gw,ah]
   . obtain⟨j,bo⟩:=S3 aT a es m (i+1) aB
     refine⟨j,?_⟩
     have Ax:¬ (p.1=a):=λe=>hp e.symm
     simp only[decide_eq_false hp,bo,gw,List.find?_cons,decide_eq_false Ax]
structure KeyOk(P:Program)(e4:TypeId)(key:α->Value):Prop where
 qZ:∀(e:Bool) (a:α) (w:World),(Instr.checkKey e 10000 e4 (key a)).run P w=.ok () w
 same:∃kind,P.underlying e4=some kind/\∀a b:α,Instr.sameNow kind (key a) (key b)=some (decide (a=b))
theorem L4{e4:TypeId}(h:P.underlying e4=some .string):KeyOk P e4 aD:=⟨λe a w=>by
 unfold Instr.checkKey;simp[run_underlying h,aD],⟨_,h,λa b=>by
 simp only[aD,Instr.sameNow,Option.some.injEq]
 rw[beq_toListBytes,toList_mk,toList_mk]
 by_cases mI:a=b<;>simp[mI]⟩⟩
def fD(n:Int):Value:=.int .i64 n
theorem u3{e4:TypeId}(h:P.underlying e4=some (.int .i64)):KeyOk P e4 fD:=⟨λe a w=>by
 unfold Instr.checkKey;simp[run_underlying h,fD],⟨_,h,λa b=>by
 simp only[fD,Instr.sameNow,Option.some.injEq,if_true]
 by_cases mI:a=b<;>simp[mI]⟩⟩
theorem run_findKey{e4:TypeId}(hk:KeyOk P e4 key)(a:α){es:List MapEntry}{m:List (α×β)}(h:es.map (λe=>(e.key,e.val))=m.map (λp=>(key p.1,val p.2)))(w:World):
 ∃j,(Instr.findKey e4 (key a) es).run P w=.ok ((gw m a).map λx=>(j,val x)) w:=by
 obtain⟨kind,hu,aT⟩:=hk.same;obtain⟨j,bo⟩:=S3 aT a es m 0 h;refine⟨j,?_⟩;unfold Instr.findKey;simp only[Sem.run_bind,run_underlying hu,Result.andThen_ok,bo,Sem.run_pure]
theorem yM{b:Nat}{es:Array MapEntry}{c:Nat}(h:w.heap[b]?=some (.map es c)):(getObj b).run P w=.ok (.map es c) w:=by
 simp[getObj,Sem.run,h]
theorem bA.S4{t e4 jo:TypeId}{g:Bool}{n by_:Nat}{x y:Operand}{b:Nat}{m:List (α×β)}{a:α}{z:Value}(hk:KeyOk P e4 key)(a_:P.underlying t=some (.map e4 jo))(cO:∀w,(zeroValue jo).run P w=.ok z w)(ag:aO E x=some (.map (some b)))(aE:aO E y=some (key a))(hm:∀w,C w->nf key val w b m):
 bA P ⟨d,.lookup t x y true,ty,pos,af,gd⟩ E C (.tuple #[(match gw m a with|some u=>val u|none=>z),.bool (gw m a).isSome]):=λs ay w hC=>by
 obtain⟨es,c,h1,ah⟩:=hm w hC
 obtain⟨j,bo⟩:=run_findKey (P:=P) hk a ah w
 have aV:=yM (P:=P) h1
 cases al:gw m a with
 | none =>
  rw[al] at bo
  simp[execOp,ay.aO ag,ay.aO aE,Instr.lookup,run_underlying a_,aV,hk.qZ,bo,cO]
 | some u =>
  rw[al] at bo
  simp[execOp,ay.aO ag,ay.aO aE,Instr.lookup,run_underlying a_,aV,hk.qZ,bo]
theorem bA.S5{t e4 jo:TypeId}{x y:Operand}{b:Nat}{m:List (α×β)}{a:α}{z:Value}(hk:KeyOk P e4 key)(a_:P.underlying t=some (.map e4 jo))(cO:∀w,(zeroValue jo).run P w=.ok z w)(ag:aO E x=some (.map (some b)))(aE:aO E y=some (key a))(hm:∀w,C w->nf key val w b m):
 bA P ⟨d,.lookup t x y false,ty,pos,af,gd⟩ E C (match gw m a with|some u=>val u|none=>z):=λs ay w hC=>by
 obtain⟨es,c,h1,ah⟩:=hm w hC
 obtain⟨j,bo⟩:=run_findKey (P:=P) hk a ah w
 have aV:=yM (P:=P) h1
 cases al:gw m a with
 | none =>
  rw[al] at bo
  simp[execOp,ay.aO ag,ay.aO aE,Instr.lookup,run_underlying a_,aV,hk.qZ,bo,cO]
 | some u =>
  rw[al] at bo
  simp[execOp,ay.aO ag,ay.aO aE,Instr.lookup,run_underlying a_,aV,hk.qZ,bo]
theorem Ay(w:World)(b:Nat)(o:Obj):Mod (b3 (b+1)) w { w with heap:=w.heap.setIfInBounds b o }:=
 ⟨rfl,rfl,rfl,by simp,λk L5 hk aR=>by
  have:b≠k:=λe=>aR (by unfold b3;omega)
  show(w.heap.setIfInBounds b _)[k]?=_
  rw[Array.getElem?_setIfInBounds_ne this];exact hk⟩
theorem gB.S6{t e4 jo:TypeId}{x y z:Operand}{b:Nat}{m:List (α×β)}{a:α}{u:β}(hk:KeyOk P e4 key)(a_:P.underlying t=some (.map e4 jo))(ag:aO E x=some (.map (some b)))(aE:aO E y=some (key a))(cO:aO E z=some (val u))(hm:nf key val w b m)(fX:gw m a=none)
 (eU:∀ao,Mod (b3 (b+1)) w ao->ao.heap.size=w.heap.size->nf key val ao b (m++[(a,u)])->K undef ao):gB P ⟨d,.mapUpdate t x y z,ty,pos,af,gd⟩ E w K:=λs ay=>by
 obtain⟨es,c,h1,ah⟩:=hm
 obtain⟨j,bo⟩:=run_findKey (P:=P) hk a ah w
 rw[fX] at bo
 have aV:=yM (P:=P) h1
 have hP:=(Array.getElem?_eq_some_iff.1 h1).1
 have h:=eU _ (Ay w b (.map (es.push { key:=key a,val:=val u,born:=c }) (c+1))) dh ⟨es.push { key:=key a,val:=val u,born:=c },c+1,by
  show(w.heap.setIfInBounds b _)[b]?=_
  simp[hP],by simp[ah]⟩
 simp[execOp,ay.aO ag,ay.aO aE,ay.aO cO,Instr.mapUpdate,run_underlying a_,aV,hk.qZ,bo,setObj,Sem.run,h1,out]
 exact h
theorem gB.makeMap{t:TypeId}(eU:∀ao b,Ext w ao->b=w.heap.size->ao.heap.size=w.heap.size+1->nf key val ao b []->K (.map (some b)) ao):gB P ⟨d,.makeMap t none,ty,pos,af,gd⟩ E w K:=λs ay=>by
 have h:=eU (w.alloc (.map #[] 0)) w.heap.size (Mod.alloc _ _ _) rfl dh ⟨#[],0,by
  show(w.heap.push _)[w.heap.size]?=_
  simp,by simp⟩
 simp[execOp,Instr.makeMap,newObj,Sem.run,out]
 exact h
end
end
def kf(w:World)(c7 ar b:Nat)(cs:List Value):Prop:=c7<=b/\b<ar/\Row w b 0 cs
theorem kf.ext{w ao:World}{c7 ar b:Nat}{cs:List Value}(h:kf w c7 ar b cs)(hm:Ext w ao):kf ao c7 ar b cs:=⟨h.1,h.2.1,h.2.2.ext hm⟩
theorem kf.bF{w ao:World}{c7 ar b g:Nat}{cs:List Value}(h:kf w c7 ar b cs)(hm:Mod (b3 g) w ao)(aV:g<=c7\/ar<g):kf ao c7 ar b cs:=⟨h.1,h.2.1,h.2.2.bF hm (by have:=h.1;have:=h.2.1;omega)⟩
theorem kf.cell{w:World}{c7 ar b:Nat}{cs:List Value}(h:kf w c7 ar b cs)(i:Nat)(v:Value)(cK:cs[i]?=some v):Row w b i [v]:=λj u hu=>by
 cases j with
 | zero =>
  simp only[List.getElem?_cons_zero,Option.some.injEq] at hu
  subst hu
  have:=h.2.2 i v cK
  simpa using this
 | succ j=>simp at hu
structure cL where
 a:Option Addr
 n:Nat
 c:Nat
def cL.val(h:cL):Value:=.slice h.a h.n h.c
def Cp(g h:Nat):Nat->Prop:=λb=>b+1=g\/b+1=h
theorem Mod.S7{g g1 g2:Nat}{w0 w ao:World}(h:Mod (Cp g1 g2) w0 w)(k:Mod (b3 g) w ao)(aV:g=0\/w0.heap.size<g\/g=g1\/g=g2):Mod (Cp g1 g2) w0 ao:=
 h.then k (λi ar bl=>by unfold b3 at ar;unfold Cp;omega)
inductive Az where
 | int (k:IntKind)
 | str
 | bool
def L6(P:Program)(f:Field):Option (Nat×Az):=
 match P.underlying f.type with
 | some (.int k) => if f.name ≠ "_" then some (f.offset, .int k) else none
 | some .string => if f.name ≠ "_" then some (f.offset, .str) else none
 | some .bool => if f.name ≠ "_" then some (f.offset, .bool) else none
 | _=>none
def ng:Az->Value->Value->Option Bool
 | .int k,.int j a,.int Rx b=>if j=k/\Rx=k then some (a==b) else none
 | .str,.string a,.string b=>some (a.toList==b.toList)
 | .bool,.bool a,.bool b=>some (a==b)
 | _,_,_=>none
def mq:List (Nat×Az)->Array Value->Array Value->Option Bool
 | [],_,_=>some true
 | (o,k)::r,xs,ys =>
  match xs[o]?,ys[o]? with
  | some x,some y=>match ng k x y with
   | some true=>mq r xs ys
   | some false=>some false
   | none=>none
  | _,_=>none
def yN(P:Program):List Field->Option (List (Nat×Az))
 | []=>some []
 | f::r=>match L6 P f,yN P r with
  | some k,some ks=>some (k::ks)
  | _,_=>none
theorem HJ {P : Program} {xs ys : Array Value} {n : Nat} (w : World) : ∀ (lr : List Field) (ks : List (Nat × Az)) (q : Bool), yN P lr = some ks → mq ks xs ys = some q → (Op.eqFields (n + 1) xs ys lr).run P w = .ok q w
  | [], ks, q, h1, ah => by
    simp only [yN, Option.some.injEq] at h1
    subst h1
    simp only [mq, Option.some.injEq] at ah
    subst ah
    simp [Op.eqFields]
  | f :: lr, ks, q, h1, ah => by
    unfold yN at h1
    cases hk : L6 P f with
    | none => simp [hk] at h1
    | some k =>
      cases k6 : yN P lr with
      | none => simp [hk, k6] at h1
      | some acS =>
        simp only [hk, k6, Option.some.injEq] at h1
        subst h1
        obtain ⟨o, k⟩ := k
        unfold mq at ah
        have key : ∀ (d : TypeDesc), P.underlying f.type = some d → f.name ≠ "_" → f.offset = o → (∀ s, d ≠ .struct s) → (∀ a b, d ≠ .array a b) → (∀ x y r, ng k x y = some r → (Op.equalIn (n + 1) f.type x y).run P w = .ok r w) → (Op.eqFields (n + 1) xs ys (f :: lr)).run P w = .ok q w := by
          intro d hu aR eh aT ay he
          cases ag : xs[o]? with
          | none => simp [ag] at ah
          | some x =>
            cases aE : ys[o]? with
            | none => simp [ag, aE] at ah
            | some y =>
              simp only [ag, aE] at ah
              have S8 : ∀ cs : Array Value, (part f.type cs f.offset).run P w = (match cs[f.offset]? with | some v => .ok v w | none => ((stuck "part: no such cell" : Sem Value)).run P w) := by
                intro cs
                unfold part isAgg
                simp only [Sem.run_bind, run_underlying hu, Result.andThen_ok]
                cases d <;> simp_all <;> (split <;> simp_all)
              have AA := S8 xs; have HK := S8 ys
              rw [eh] at AA HK
              rw [ag] at AA; rw [aE] at HK
              cases al : ng k x y with
              | none => simp [al] at ah
              | some r =>
                have a' := he x y r al
                rw [al] at ah
                have cc := fun h => HJ (P := P) (xs := xs) (ys := ys) (n := n) w lr acS q k6 h
                cases r with
                | false =>
                  simp only [Option.some.injEq] at ah
                  subst ah
                  simp [Op.eqFields, aR, eh, AA, HK, a']
                | true =>
                  have := cc ah
                  simp [Op.eqFields, aR, eh, AA, HK, a', this]
        unfold L6 at hk
        cases hu : P.underlying f.type with
        | none => simp [hu] at hk
        | some d =>
          cases d <;> simp only [hu, reduceCtorEq] at hk <;> (split at hk) <;> (try cases hk) <;> rename_i aR
          all_goals refine key _ hu aR rfl (by intro s h; cases h) (by intro a b h; cases h) fun x y r al => ?_
          all_goals (cases x <;> simp only [ng, reduceCtorEq] at al <;> cases y <;> simp only [ng, reduceCtorEq, Option.some.injEq] at al)
          all_goals first
            | (split at al
               · rename_i bo
                 obtain ⟨rfl, rfl⟩ := bo
                 simp only [Option.some.injEq] at al
                 subst al
                 exact run_equalIn_int w n _ _ _ _ _ hu
               · cases al)
            | (subst al; exact run_equalIn_bool' w n _ _ _ hu)
            | (subst al; exact run_equalIn_string w n _ _ _ hu)
theorem Cq{P:Program}{t:TypeId}{xs ys:Array Value}{ks:List (Nat×Az)}{q:Bool}(bD:P.underlying t=some (.struct (P.fieldsOf t)))(hp:P.stoodInHeld t=false)(hk:yN P (P.fieldsOf t).toList=some ks)(dM:mq ks xs ys=some q)(w:World):
 (Op.equalIn 10000 t (.agg xs) (.agg ys)).run P w=.ok q w:=
 (run_equalIn_agg w 9999 t xs ys bD hp).trans (HJ (n:=9998) w _ ks q hk dM)
theorem L7{p:Prop}[Decidable p](h:true=!decide p):¬ p:=by
 intro hp;simp[hp] at h
theorem L8{p:Prop}[Decidable p](h:false=!decide p):p:=by
 by_cases hp:p
 . exact hp
 . simp[hp] at h
theorem tV{P:Program}{f:FuncId}{R:Ending->World->Prop}{n:Nat}{E:Env}{k:List Item}{w:World}{fn:Func}{t:Tmp}{ty:TypeId}{b off sz by_:Nat}{z cs:List Value}(bD:P.funcs[f]?=some fn)(ow:fn.results=#[.cell t ty])
 (cK:mG t E=some (ptr b off)) (a_:ey P ty=some (true,sz,by_,z)) (a':Row w b off cs) (aR:cs.length=sz) (fo:R (.returned (.agg cs.toArray)) w):hx P f R n E (.code .ret::k) w:=λa ay sf ab hk cs' =>
 ⟨_,w,{ sf.at a (.code .ret::k) with mode:=.returning },fo,.one step_ret,ab,BY ay bD ab hk (by
  have aV:a.tmps[t]?.getD undef=.pointer (some ⟨b,off,none⟩):=by have:=ay.has t _ cK;simpa[ptr] using this
  simp[results,ow,aV,asAddr,Sem.run_bind,Result.andThen,Lu a_ a' aR])⟩
end Go.aG
