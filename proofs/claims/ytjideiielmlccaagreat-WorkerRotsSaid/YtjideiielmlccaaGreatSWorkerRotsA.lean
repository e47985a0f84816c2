/-
  What the law WorkerRots needs, part 1 of 7: theory, and walks through the code. Names are said short.
-/
import Derived.WalkKit
import Derived.ProofKit
import Derived.Still
import Derived.Laws.Strings
import Derived.Laws.Small
import Derived.Laws.AppendOwn
import Derived.Lib.RuneCountTail
import Derived.Lib.Bytealg
import Derived.OpenShut
import Derived.SliceStrings
import Derived.Lib.SmallJoins
import Derived.Carry
import Derived.Laws.MakeOwn
import Derived.Laws.Pointers
import Derived.Laws.StructEq
import Derived.Lib.Join
import Derived.Room.Shelf.Join48
import Derived.Shelf.SlSortCmp.NoneTotal
import Derived.Shelf.SlicesE.Compact
import Derived.Laws.BytesArg
import Derived.Laws.IdiomStrings
import Derived.Laws.Cover4
import Derived.Laws.BitsAllLaws
import Derived.MapKept
import Derived.Deep.AppendSrc
import Derived.Test.YtjideiielmlccaaGreatProg
import Derived.Ground.NamesProg
set_option linter.unusedVariables false
set_option linter.unusedSimpArgs false
set_option maxRecDepth 20000
set_option maxHeartbeats 8000000
namespace Go.aA
open Go
abbrev Env:=List (Nat×Value)
def mv:Nat→Env→Option Value
 | _,[]=>none
 | i,p::r=>match Nat.beq i p.1 with
  | true=>some p.2
  | false=>mv i r
def aC (E:Env):Operand→Option Value
 | .tmp t=>mv t E
 | .const v=>some v
 | .global g=>some (.pointer (some ⟨g,0,none⟩))
 | .func f=>some (.func (.func f) #[] #[])
def Has (E:Env) (a:Act):Prop:=∀ i v,mv i E=some v→a.tmps.getD i undef=v
structure Sat (n:Nat) (E:Env) (a:Act):Prop where
 size:a.tmps.size=n
 defers:a.defers=[]
 has:Has E a
def pu:Option Tmp→Value→Env→Env
 | some d,v,E=>(d,v)::E
 | none,_,E=>E
def iU (n:Nat):Option Tmp→Bool
 | some d=>Nat.blt d n
 | none=>true
theorem Sat.put {n:Nat} {E:Env} {a:Act} (h:Sat n E a) {d:Option Tmp} (hd:iU n d=true) (v:Value):Sat n (pu d v E) (a.put d v):=by
 cases d with
 | none=>exact h
 | some d =>
  have W2:d < n:=Nat.lt_of_succ_le (Nat.le_of_ble_eq_true hd)
  refine ⟨by simp [Act.put,h.size],h.defers,fun i u hu=>?_⟩
  simp only [pu,mv] at hu
  cases U:Nat.beq i d with
  | true =>
   have:i=d:=Nat.eq_of_beq_eq_true U
   subst this
   simp only [U] at hu
   simp only [Option.some.injEq] at hu
   subst hu
   simp [Act.put,h.size,W2]
  | false =>
   simp only [U] at hu
   have cA:d≠i:=fun e=>by subst e; simp [Nat.beq_refl] at U
   have:=h.has i u hu
   simpa [Act.put,Array.getElem?_setIfInBounds_ne cA] using this
theorem Has.aC {E:Env} {a:Act} (h:Has E a) {x:Operand} {v:Value} (ad:aA.aC E x=some v):a.eval x=v:=by
 cases x with
 | tmp t=>exact h t v ad
 | const u=>simpa [aA.aC,Act.eval] using ad
 | global g=>simpa [aA.aC,Act.eval] using ad
 | func f=>simpa [aA.aC,Act.eval] using ad
def sub:Env→Env→Prop
 | [],_=>True
 | p::r,E=>mv p.1 E=some p.2∧sub r E
theorem Oc:∀ {hX E:Env},sub hX E→∀ i v,mv i hX=some v→mv i E=some v
 | [],_,_,_,_,h=>by simp [mv] at h
 | p::r,E,⟨h1,aa⟩,i,v,h=>by
  simp only [mv] at h
  cases U:Nat.beq i p.1 with
  | true =>
   have:i=p.1:=Nat.eq_of_beq_eq_true U
   simp only [U] at h
   simp only [Option.some.injEq] at h
   rw [this,h1,h]
  | false =>
   simp only [U] at h
   exact Oc aa i v h
theorem Sat.sub {n:Nat} {E hX:Env} {a:Act} (h:Sat n E a) (aF:aA.sub hX E):Sat n hX a:=
 ⟨h.size,h.defers,fun i v bG=>h.has i v (Oc aF i v bG)⟩
structure Mod (M:Nat→Prop) (w ah:World):Prop where
 os:ah.os=w.os
 tape:ah.tape=w.tape
 output:ah.output=w.output
 size:w.heap.size≤ah.heap.size
 keep:∀ (b:Nat) (o:Obj),w.heap[b]?=some o→¬ M b→ah.heap[b]?=some o
abbrev Ext (w ah:World):Prop:=Mod (fun _=>False) w ah
theorem Mod.refl (M:Nat→Prop) (w:World):Mod M w w:=⟨rfl,rfl,rfl,Nat.le_refl _,fun _ _ h _=>h⟩
theorem Mod.trans {M:Nat→Prop} {a b c:World} (h:Mod M a b) (k:Mod M b c):Mod M a c:=
 ⟨k.os.trans h.os,k.tape.trans h.tape,k.output.trans h.output,Nat.le_trans h.size k.size,fun i o al hm=>k.keep i o (h.keep i o al hm) hm⟩
theorem Mod.weaken {M Od:Nat→Prop} {a b:World} (h:Mod M a b) (hm:∀ i,M i→i < a.heap.size→Od i):Mod Od a b:=
 ⟨h.os,h.tape,h.output,h.size,fun i o al aI=>h.keep i o al (fun ad=>aI (hm i ad (Array.getElem?_eq_some_iff.1 al).1))⟩
theorem Mod.then {M N:Nat→Prop} {a b c:World} (h:Mod M a b) (k:Mod N b c) (gw:∀ i,N i→i < a.heap.size→M i):Mod M a c:=
 ⟨k.os.trans h.os,k.tape.trans h.tape,k.output.trans h.output,Nat.le_trans h.size k.size,
  fun i o al hm=>k.keep i o (h.keep i o al hm) (fun ad=>hm (gw i ad (Array.getElem?_eq_some_iff.1 al).1))⟩
theorem Mod.ext {M:Nat→Prop} {a b c:World} (h:Mod M a b) (k:Ext b c):Mod M a c:=h.then k (fun _ h _=>h.elim)
theorem Ext.mod {a b:World} (h:Ext a b) (M:Nat→Prop):Mod M a b:=h.weaken (fun _ h _=>h.elim)
theorem Mod.drew (M:Nat→Prop) (w:World):Mod M w w.drew:=⟨rfl,rfl,rfl,Nat.le_refl _,fun _ _ h _=>h⟩
theorem Mod.alloc (M:Nat→Prop) (w:World) (o:Obj):Mod M w (w.alloc o):=
 ⟨rfl,rfl,rfl,by simp,fun b x h _=>by
  have a':=(Array.getElem?_eq_some_iff.1 h).1
  show (w.heap.push o)[b]?=_
  rw [Array.getElem?_push,if_neg (by omega)]; exact h⟩
theorem Mod.below {w ah:World} (h:Ext w ah):Go.RowKit.Below w.heap.size w ah:=
 ⟨h.os,h.tape,h.output,h.size,fun k hk=>by
  have e:w.heap[k]?=some w.heap[k]:=by simp [hk]
  rw [e]; exact h.keep k _ e (fun x=>x)⟩
theorem Mod.W3 {w ah:World} (h:Go.RowKit.Below w.heap.size w ah):Ext w ah:=
 ⟨h.os,h.tape,h.output,h.size,fun b o U _=>by rw [h.block b (Array.getElem?_eq_some_iff.1 U).1]; exact U⟩
section
variable {P:Program} {f:FuncId} {R:Ending→World→Prop} {n:Nat}
def nM (P:Program) (f:FuncId) (R:Ending→World→Prop) (k:List Item) (a:Act) (w:World):Prop:=
 ∀ b:Frame,b.fn=f→b.kind=.normal→∀ cs,∃ e ah xb,R e ah∧Comes P (lone (b.at a k) cs w) (lone xb cs ah) e∧xb.fn=f∧xb.leaving P ah e
theorem nM.head {k iy:List Item} {a:Act} {w:World} (aF:∀ (b:Frame) cs,step P (lone (b.at a k) cs w)=.next (lone (b.at a iy) cs w))
 (h:nM P f R iy a w):nM P f R k a w:=fun b bd hk cs =>
 let ⟨e,ah,xb,e3,an,r⟩:=h b bd hk cs
 ⟨e,ah,xb,e3,Comes.of_steps (.one (aF b cs)) an,r⟩
theorem IJ {c:Code} {k:List Item} {a:Act} {w:World} (h:c.wp P (fun e a w=>e=.normal∧nM P f R k a w) a w):nM P f R (.code c::k) a w:=by
 intro b bd hk cs;obtain ⟨e,jQ,ah,⟨rfl,aB⟩,W4⟩:=h b k cs;obtain ⟨e,vP,xb,e3,an,r⟩:=aB b bd hk cs;exact ⟨e,vP,xb,e3,Comes.of_steps W4 an,r⟩
theorem W5 {fn:Func} {c:Code} {args:Array Value} {w:World} (bd:P.funcs[f]?=some fn) (U:fn.body=some c)
 (h:nM P f R [.code c] { tmps:=args++Array.replicate (fn.ntmps-args.size) undef,defers:=[] } w):Calls P f args w R:=by
 intro cs;let b:Frame:={ (default:Frame) with fn:=f,kind:=.normal }
 have W6:Frame.enter P f args .normal =
  b.at { tmps:=args++Array.replicate (fn.ntmps-args.size) undef,defers:=[] } [.code c]:=by
  simp [Frame.enter,Frame.at,bd,U,b]
 rw [W6];exact h b rfl rfl cs
def gQ (P:Program) (f:FuncId) (R:Ending→World→Prop) (n:Nat) (E:Env) (k:List Item) (w:World):Prop:=∀ a,Sat n E a→nM P f R k a w
theorem gQ.sub {E hX:Env} {k:List Item} {w:World} (h:gQ P f R n hX k w) (aF:aA.sub hX E):gQ P f R n E k w:=fun a ao=>h a (ao.sub aF)
theorem W7 {E:Env} {x y:Code} {k:List Item} {w:World} (h:gQ P f R n E (.code x::.code y::k) w):gQ P f R n E (.code (.seq x y)::k) w:=
 fun a ao=>nM.head (fun _ _=>step_seq) (h a ao)
theorem W8 {E:Env} {k:List Item} {w:World} (h:gQ P f R n E k w):gQ P f R n E (.code .skip::k) w:=
 fun a ao=>nM.head (fun _ _=>step_skip) (h a ao)
theorem W9 {E:Env} {id:Nat} {c:Code} {k:List Item} {w:World} (h:gQ P f R n E (.code c::.inBlock id::k) w):gQ P f R n E (.code (.block id c)::k) w:=
 fun a ao=>nM.head (fun _ _=>step_block) (h a ao)
theorem W_ {E:Env} {id:Nat} {k:List Item} {w:World} (h:gQ P f R n E k w):gQ P f R n E (.inBlock id::k) w:=
 fun a ao=>nM.head (fun _ _=>step_inBlock) (h a ao)
theorem W' {E:Env} {id:Nat} {k iy:List Item} {w:World} (hk:exitTo id k=some iy) (h:gQ P f R n E iy w):gQ P f R n E (.code (.exit id)::k) w:=
 fun a ao=>nM.head (fun _ _=>step_exit hk) (h a ao)
theorem Xa {E:Env} {c:Operand} {x y:Code} {k:List Item} {w:World} (an:aC E c=some (.bool true)) (h:gQ P f R n E (.code x::k) w):gQ P f R n E (.code (.cond c x y)::k) w:=
 fun a ao=>nM.head (fun _ _=>step_cond (t:=true) (ao.has.aC an)) (h a ao)
theorem Xb {E:Env} {c:Operand} {x y:Code} {k:List Item} {w:World} (an:aC E c=some (.bool false)) (h:gQ P f R n E (.code y::k) w):gQ P f R n E (.code (.cond c x y)::k) w:=
 fun a ao=>nM.head (fun _ _=>step_cond (t:=false) (ao.has.aC an)) (h a ao)
theorem Xc {E:Env} {c:Code} {k:List Item} {w:World} (h:gQ P f R n E (.code c::.inLoop c::k) w):gQ P f R n E (.inLoop c::k) w:=
 fun a ao=>nM.head (fun _ _=>step_inLoop) (h a ao)
theorem dU {E:Env} {c:Code} {k:List Item} {w:World} (I:Nat→Env→World→Prop)
 (a8:∃ m hX,I m hX w∧aA.sub hX E)
 (aB:∀ m E w,I m E w→(∀ rF hX ah,I rF hX ah→rF < m→gQ P f R n hX (.inLoop c::k) ah)→gQ P f R n E (.code c::.inLoop c::k) w) :
 gQ P f R n E (.code (.loop c)::k) w:=by
 have key:∀ m E w,I m E w→gQ P f R n E (.code c::.inLoop c::k) w:=by
  intro m
  induction m using Nat.strongRecOn with
  | _ m bq=>exact fun E w lH=>aB m E w lH fun rF hX ah Xd gE=>Xc (bq rF gE hX ah Xd)
 obtain ⟨m,hX,lH,aF⟩:=a8;exact fun a ao=>nM.head (fun _ _=>step_loop) (key m hX w lH a (ao.sub aF))
theorem IK {E:Env} {x:Item} {k:List Item} {w:World} (J:Env→World→Prop)
 (hk:∀ E w,J E w→gQ P f R n E k w) (ad:(∀ E w,J E w→gQ P f R n E k w)→gQ P f R n E (x::k) w):gQ P f R n E (x::k) w:=ad hk
theorem AE {n:Nat} {E:Env} {a:Act} {b:Frame} {k:List Item} {w:World} {fn:Func} {v:Value} (ao:Sat n E a) (bd:P.funcs[f]?=some fn) (U:b.fn=f) (hk:b.kind=.normal)
 (aB:(results fn a.tmps).run P w=.ok v w):Frame.leaving P { b.at a k with mode:=.returning } w (.returned v):=
 ⟨rfl,ao.defers,hk,fn,by show P.funcs[b.fn]?=_; rw [U]; exact bd,aB⟩
theorem aL {E:Env} {k:List Item} {w:World} {fn:Func} {t:Tmp} {v:Value} (bd:P.funcs[f]?=some fn) (oT:fn.results=#[.tmp t])
 (bG:mv t E=some v) (e3:R (.returned v) w):gQ P f R n E (.code .ret::k) w:=fun a ao b U hk cs =>
 ⟨.returned v,w,{ b.at a (.code .ret::k) with mode:=.returning },e3,.one step_ret,U,AE ao bd U hk (by
  rw [results_tmp oT,ao.has t v bG])⟩
theorem bM {E:Env} {k:List Item} {w:World} {fn:Func} {t u:Tmp} {v x:Value} (bd:P.funcs[f]?=some fn) (oT:fn.results=#[.tmp t,.tmp u])
 (bG:mv t E=some v) (ad:mv u E=some x) (e3:R (.returned (.tuple #[v,x])) w):gQ P f R n E (.code .ret::k) w:=fun a ao b U hk cs =>
 ⟨.returned _,w,{ b.at a (.code .ret::k) with mode:=.returning },e3,.one step_ret,U,AE ao bd U hk (by
  rw [results_tmp2 oT,ao.has t v bG,ao.has u x ad])⟩
theorem p3 {E:Env} {w:World} {fn:Func} (bd:P.funcs[f]?=some fn) (oT:fn.results=#[])
 (e3:R (.returned (.tuple #[])) w):gQ P f R n E [] w:=fun a ao b U hk cs =>
 ⟨.returned _,w,{ b.at a [] with mode:=.returning },e3,.one step_end,U,AE ao bd U hk (results_none oT _ _ _)⟩
theorem AF {E:Env} {k:List Item} {w:World} {fn:Func} (bd:P.funcs[f]?=some fn) (oT:fn.results=#[])
 (e3:R (.returned (.tuple #[])) w):gQ P f R n E (.code .ret::k) w:=fun a ao b U hk cs =>
 ⟨.returned _,w,{ b.at a (.code .ret::k) with mode:=.returning },e3,.one step_ret,U,AE ao bd U hk (results_none oT _ _ _)⟩
end
section
variable {P:Program} {f:FuncId} {R:Ending→World→Prop} {n:Nat}
def want (n:Nat) (ops:Array Oper) (E:Env):Option (Nat×Bool)→Option Bool
 | none=>some true
 | some (j,b)=>match (ops[j]?).bind (·.dst) with
  | some d=>match mv d E with
   | some (.bool c)=>match Nat.blt d n with
    | true=>some (c==b)
    | false=>none
   | some (.tuple _)=>some false
   | _=>none
  | none=>none
theorem vQ {ops:Array Oper} {E:Env} {a:Act} (aF:Sat n E a) {o:Oper} {b:Bool} (h:want n ops E o.guard=some b) :
 Region.wanted o (yielded ops a.tmps)=b:=by
 unfold Region.wanted
 cases aO:o.guard with
 | none=>simpa [want,aO] using h
 | some Xe =>
  obtain ⟨j,c⟩:=Xe
  simp only [aO,want] at h
  cases hd:(ops[j]?).bind (·.dst) with
  | none=>simp [hd] at h
  | some d =>
   simp only [hd] at h
   cases a':mv d E with
   | none=>simp [a'] at h
   | some v =>
    rw [a'] at h
    cases v<;>simp only [reduceCtorEq] at h
    case tuple vs =>
     have bG:=aF.has d _ a'
     have av:yielded ops a.tmps j=none:=by
      unfold yielded
      rw [hd]
      simp only [Option.bind_some]
      cases aQ:a.tmps[d]? with
      | none=>rfl
      | some u =>
       have:u=.tuple vs:=by
        rw [←bG]; simp [aQ]
       rw [this]
     simp only [av]
     simp only [Option.some.injEq] at h
     subst h
     cases c<;>rfl
    rename_i x
    cases gE:Nat.blt d n with
    | false=>simp [gE] at h
    | true =>
     simp only [gE,Option.some.injEq] at h
     have Xf:d < a.tmps.size:=by
      rw [aF.size]; exact Nat.lt_of_succ_le (Nat.le_of_ble_eq_true gE)
     have bG:=aF.has d _ a'
     have av:yielded ops a.tmps j=some x:=by
      unfold yielded
      rw [hd]
      simp only [Option.bind_some]
      have:a.tmps[d]?=some (.bool x):=by
       rw [←bG]; simp [Xf]
      rw [this]
     simp only [av]
     subst h
     cases x<;>cases c<;>rfl
def aY (P:Program) (o:Oper) (E:Env) (C:World→Prop) (v:Value):Prop:=
 ∀ a,Has E a→∀ w,C w→(execOp a.eval o).run P w=.ok (.value v) w
def out (P:Program) (K:Value→World→Prop):Result Next→Prop
 | .ok (.value v) ah=>K v ah
 | .ok .skip ah=>K undef ah
 | .ok (.enter f args) ah=>Calls P f args ah (fun e vP=>∃ v,e=.returned v∧K v vP)
 | .ok (.row row args) ah=>Rows P row args ah K
 | _=>False
theorem sq {K qL:Value→World→Prop} {r:Result Next} (h:∀ v w,K v w→qL v w) (fC:out P K r):out P qL r:=by
 cases r with
 | ok x ah =>
  cases x<;>simp only [out] at fC ⊢<;>first
   | exact h _ _ fC
   | exact Calls.mono fC (fun e vP ⟨v,he,hk⟩=>⟨v,he,h _ _ hk⟩)
   | exact Rows.mono fC (fun v vP hk=>h _ _ hk)
 | halt x ah=>simp only [out] at fC
theorem Fb {K : Value → World → Prop} {r : Result Next} (fC : out P K r) : ∃ v w, K v w := by
  cases r with
  | ok x ah =>
    cases x <;> simp only [out] at fC <;> first
      | exact ⟨_, _, fC⟩
      | (obtain ⟨e, vP, xb, ⟨v, _, hk⟩, _⟩ := fC []
         exact ⟨_, _, hk⟩)
      | (obtain ⟨v, vP, hk, _⟩ := fC default []
         exact ⟨_, _, hk⟩)
  | halt x ah => simp only [out] at fC
theorem IL {o:Oper} {a:Act} {K:Value→World→Prop} {next:Act→World→Prop} {Q:Exit→Act→World→Prop} {r:Result Next}
 (h:∀ v w,K v w→next (a.put o.dst v) w) (fC:out P K r):o.upon P a next Q r:=by
 cases r with
 | ok x ah =>
  cases x<;>simp only [out] at fC<;>simp only [Oper.upon]<;>first
   | exact h _ _ fC
   | exact Calls.mono fC (fun e vP ⟨v,he,hk⟩=>by subst he; exact h _ _ hk)
   | exact Rows.mono fC (fun v vP hk=>h _ _ hk)
 | halt x ah=>simp only [out] at fC
def gl (P:Program) (o:Oper) (E:Env) (w:World) (K:Value→World→Prop):Prop:=
 ∀ a,Has E a→out P K ((execOp a.eval o).run P w)
def e4 (P:Program) (f:FuncId) (R:Ending→World→Prop) (n:Nat) (ops:Array Oper) (l:List Oper) (E:Env) (k:List Item) (w:World):Prop:=
 ∀ a,Sat n E a→wpList P ops (fun e a w=>e=.normal∧nM P f R k a w) l a w
theorem Xg {id:Nat} {l:List Oper} {E:Env} {k:List Item} {w:World} (h:e4 P f R n l.toArray l E k w):gQ P f R n E (.code (.region id l.toArray false)::k) w:=
 fun a ao=>IJ (wp_region_lit (h a ao))
theorem e4.nil {ops:Array Oper} {E:Env} {k:List Item} {w:World} (h:gQ P f R n E k w):e4 P f R n ops [] E k w:=fun a ao=>⟨rfl,h a ao⟩
theorem e4.q {ops:Array Oper} {o:Oper} {l:List Oper} {E:Env} {k:List Item} {w:World} {v:Value} (dL:aY P o E (fun ah=>ah=w) v)
 (hw:want n ops E o.guard=some true) (hd:iU n o.dst=true) (h:e4 P f R n ops l (pu o.dst v E) k w):e4 P f R n ops (o::l) E k w:=by
 intro a ao;refine wpList_step fun K eC=>?_
 rw [vQ ao hw,if_pos rfl];unfold Oper.wp;rw [dL a ao.has w rfl];exact eC _ _ (h _ (ao.put hd v))
theorem e4.dt {ops:Array Oper} {o:Oper} {l:List Oper} {E:Env} {k:List Item} {w:World}
 (hw:want n ops E o.guard=some false) (hd:iU n o.dst=true) (h:e4 P f R n ops l (pu o.dst undef E) k w):e4 P f R n ops (o::l) E k w:=by
 intro a ao;refine wpList_step fun K eC=>?_
 rw [vQ ao hw,if_neg (by simp)];exact eC _ _ (h _ (ao.put hd undef))
theorem e4.act {ops:Array Oper} {o:Oper} {l:List Oper} {E:Env} {k:List Item} {w:World}
 (hw:want n ops E o.guard=some true) (hd:iU n o.dst=true) (ao:gl P o E w (fun v ah=>e4 P f R n ops l (pu o.dst v E) k ah)):e4 P f R n ops (o::l) E k w:=by
 intro a IM;refine wpList_step fun K eC=>?_
 rw [vQ IM hw,if_pos rfl];exact IL (fun v ah bG=>eC _ _ (bG _ (IM.put hd v))) (ao a IM.has)
end
end Go.aA
namespace Go.aA
open Go
section
variable {P:Program} {ops:Array Oper} {C:World→Prop} {A:Nat→Bool} {Z:Nat}
def gF (P:Program) (ops:Array Oper) (C:World→Prop) (A:Nat→Bool) (Z:Nat) (i:Nat) (K:Act→World→Prop) (a:Act) (w:World):Prop:=
 match ops[i]? with
 | none=>K a w
 | some o =>
  if Region.wanted o (yielded ops a.tmps)=true then
   if A i=true then out P (fun v ah=>(i=Z∨C ah)∧K (a.put o.dst v) ah) ((execOp a.eval o).run P w)
   else ∃ v,(∀ ah,C ah→(execOp a.eval o).run P ah=.ok (.value v) ah)∧K (a.put o.dst v) w
  else K (a.put o.dst undef) w
def wd (P:Program) (ops:Array Oper) (C:World→Prop) (A:Nat→Bool) (Z:Nat) (Q:Act→World→Prop):List Nat→Act→World→Prop
 | [],a,w=>Q a w
 | i::r,a,w=>gF P ops C A Z i (wd P ops C A Z Q r) a w
def lj (P:Program) (ops:Array Oper) (C:World→Prop) (A:Nat→Bool) (Z:Nat) (Q:Act→World→Prop):Nat→Array Bool→Act→World→Prop
 | 0,bL,a,w=>Region.ready .any ops bL=[]∧Q a w
 | fuel+1,bL,a,w =>
  (Region.ready .any ops bL=[]→Q a w) ∧
  ∀ i∈Region.ready .any ops bL,gF P ops C A Z i (lj P ops C A Z Q fuel (bL.setIfInBounds i true)) a w
def mJ (P:Program) (ops:Array Oper) (C:World→Prop) (A:Nat→Bool) (i:Nat) (o:Oper) (v:Value) (a:Act):Prop:=
 (Region.wanted o (yielded ops a.tmps)=true∧A i=false∧∀ ah,C ah→(execOp a.eval o).run P ah=.ok (.value v) ah) ∨
 (Region.wanted o (yielded ops a.tmps)=false∧v=undef)
theorem mJ.gF {i:Nat} {o:Oper} {v:Value} {a:Act} {w:World} {K:Act→World→Prop} (al:ops[i]?=some o) (av:mJ P ops C A i o v a) (h:K (a.put o.dst v) w):gF P ops C A Z i K a w:=by
 unfold aA.gF;simp only [al];rcases av with ⟨hw,bg,bG⟩|⟨hw,rfl⟩
 · simp only [hw,bg,if_true,Bool.false_eq_true,if_false]; exact ⟨v,bG,h⟩
 · simp only [hw,Bool.false_eq_true,if_false]; exact h
theorem mJ.of_same {i:Nat} {o:Oper} {v:Value} {a jQ:Act} (av:mJ P ops C A i o v a) (he:execOp jQ.eval o=execOp a.eval o)
 (hw:Region.wanted o (yielded ops jQ.tmps)=Region.wanted o (yielded ops a.tmps)):mJ P ops C A i o v jQ:=by
 unfold mJ at *;rw [he,hw];exact av
theorem IN {i j:Nat} {ey eb:Oper} {v:Value} (aS:ops[j]?=some eb) (yP:ey.apart ops eb=true)
 (vR:∀ cs b,ey.op≠.select cs b) (yQ:∀ cs b,eb.op≠.select cs b) {K:Act→World→Prop} {a:Act} {w:World}
 (av:mJ P ops C A i ey v a) (h:gF P ops C A Z j K (a.put ey.dst v) w) :
 gF P ops C A Z j (fun jQ ah=>mJ P ops C A i ey v jQ∧K (jQ.put ey.dst v) ah) a w:=by
 obtain ⟨h1,aa,aq⟩:=Oper.apart_spec yP
 have keep:∀ u,mJ P ops C A i ey v (a.put eb.dst u):=fun u =>
  av.of_same (execOp_put ey vR a eb.dst u aq) (wanted_put ey a eb.dst u aq)
 unfold gF at *;simp only [aS] at *;rw [wanted_put eb a ey.dst v h1,execOp_put eb yQ a ey.dst v h1] at h;split
 · rename_i hw;simp only [hw,if_true] at h;split
   · rename_i bg;simp only [bg,if_true] at h;exact sq (fun u ah hu=>⟨hu.1,keep u,by rw [←Act.put_comm a v u aa]; exact hu.2⟩) h
   · rename_i bg;simp only [bg] at h;obtain ⟨u,hu,hk⟩:=h;exact ⟨u,hu,keep u,by rw [←Act.put_comm a v u aa]; exact hk⟩
 · rename_i hw;simp only [hw] at h;exact ⟨keep _,by rw [←Act.put_comm a v undef aa]; exact h⟩
theorem IP {i:Nat} {K qL:Act→World→Prop} {a:Act} {w:World} (cA:i≠Z) (h:∀ a w,C w→K a w→qL a w) (hC:C w) (fC:gF P ops C A Z i K a w):gF P ops C A Z i qL a w:=by
 unfold gF at *;split
 · exact h _ _ hC (by simpa [*] using fC)
 · rename_i o dJ;simp only [dJ] at fC;split
   · rename_i hw;simp only [hw,if_true] at fC;split
     · rename_i bg;simp only [bg,if_true] at fC;exact sq (fun v ah bG=>⟨bG.1,h _ _ (bG.1.resolve_left cA) bG.2⟩) fC
     · rename_i bg;simp only [bg] at fC;obtain ⟨v,h1,aa⟩:=fC;exact ⟨v,h1,h _ _ hC aa⟩
   · rename_i hw;simp only [hw] at fC;exact h _ _ hC fC
def qM (ops:Array Oper) (m:Array Nat):Bool:=
 (List.range ops.size).all fun j=>match ops[j]? with
  | some o=>m.getD j 0==o.after.foldl (fun s e=>if Region.binds .any e then s ||| 2 ^ e.on ||| m.getD e.on 0 else s) 0
  | none=>true
def oU (m:Array Nat) (bL:Array Bool):Prop:=∀ j k,bL.getD j false=true→(m.getD j 0).testBit k=true→bL.getD k false=true
theorem Oe (m:Array Nat) (k:Nat):∀ (l:List Edge) (s:Nat),(l.foldl (fun s e=>if Region.binds .any e then s ||| 2 ^ e.on ||| m.getD e.on 0 else s) s).testBit k=true →
 s.testBit k=true∨∃ e∈l,Region.binds .any e=true∧(e.on=k∨(m.getD e.on 0).testBit k=true)
 | [],s,h=>.inl h
 | e::l,s,h=>by
  rcases Oe m k l _ h with h|⟨nN,IQ,h⟩
  · by_cases U:Region.binds .any e=true
    · simp only [U,if_true,Nat.testBit_or,Bool.or_eq_true] at h
      rcases h with (h|h)|h
      · exact .inl h
      · refine .inr ⟨e,by simp,U,.inl ?_⟩
        rw [Nat.testBit_two_pow] at h
        simpa using h
      · exact .inr ⟨e,by simp,U,.inr h⟩
    · simp only [U] at h
      exact .inl h
  · exact .inr ⟨nN,by simp [IQ],h⟩
theorem xc {m:Array Nat} {bL:Array Bool} (eG:qM ops m=true) (hd:oU m bL) {j:Nat} (aS:j∈Region.ready .any ops bL) {k:Nat} (hk:(m.getD j 0).testBit k=true):bL.getD k false=true:=by
 obtain ⟨_,o,dJ,fr⟩:=mem_ready.1 aS;have gE:j < ops.size:=(Array.getElem?_eq_some_iff.1 dJ).1;have h1:=List.all_eq_true.1 eG j (List.mem_range.2 gE);simp only [dJ,beq_iff_eq] at h1;rw [h1,←Array.foldl_toList] at hk;rcases Oe m k _ _ hk with h|⟨e,he,U,h⟩
 · simp at h
 · have a':=fr e (Array.mem_toList_iff.1 he) U;rcases h with rfl|h
   · exact a'
   · exact hd _ _ a' h
theorem Xh {bL:Array Bool} {i j:Nat} (h:(bL.setIfInBounds i true).getD j false=true):j=i∨bL.getD j false=true:=by
 by_cases l5:i=j
 · exact .inl l5.symm
 · rw [getD_set_ne false l5] at h; exact .inr h
theorem oU.set {m:Array Nat} {bL:Array Bool} (eG:qM ops m=true) (hd:oU m bL) {j:Nat} (aS:j∈Region.ready .any ops bL):oU m (bL.setIfInBounds j true):=by
 intro a k ao hk;rcases Xh ao with rfl|ao
 · exact getD_set_true (xc eG hd aS hk)
 · exact getD_set_true (hd a k ao hk)
theorem Fc {bL:Array Bool} {i:Nat} (h:bL.getD i true=false):bL.getD i false=false:=by
 rcases Nat.lt_or_ge i bL.size with gx|gx
 · simpa [gx] using h
 · simp [Array.getElem?_eq_none gx] at h
def tk (ops:Array Oper) (m:Array Nat) (Z:Nat):Prop:=∀ k,Z < ops.size→k < ops.size→k≠Z→(m.getD Z 0).testBit k=true
theorem uN {bL:Array Bool} {j:Nat} (aS:j∈Region.ready .any ops bL):j < ops.size:=by
 obtain ⟨_,o,dJ,_⟩:=mem_ready.1 aS;exact (Array.getElem?_eq_some_iff.1 dJ).1
theorem IS {bL:Array Bool} {k:Nat} (h:bL.getD k false=true):bL.getD k true=true:=by
 rcases Nat.lt_or_ge k bL.size with gx|gx
 · simpa [gx] using h
 · simp [Array.getElem?_eq_none gx] at h
theorem Cn {m:Array Nat} {bL:Array Bool} (eG:qM ops m=true) (b':tk ops m Z) (hd:oU m bL) (aS:Z∈Region.ready .any ops bL) {k:Nat} (hk:k < ops.size) (cA:k≠Z):bL.getD k true=true:=
 IS (xc eG hd aS (b' k (uN aS) hk cA))
theorem Fe {m:Array Nat} {bL:Array Bool} (eG:qM ops m=true) (b':tk ops m Z) (hd:oU m bL) (aS:Z∈Region.ready .any ops bL):Region.ready .any ops (bL.setIfInBounds Z true)=[]:=by
 cases aB:Region.ready .any ops (bL.setIfInBounds Z true) with
 | nil=>rfl
 | cons a l =>
  exfalso
  have ao:a∈Region.ready .any ops (bL.setIfInBounds Z true):=by rw [aB]; simp
  have gE:=uN ao
  have h1:=(mem_ready.1 ao).1
  by_cases IT:a=Z
  · subst IT
    have xd:=(mem_ready.1 aS).1
    have dr:a < bL.size:=by
     rcases Nat.lt_or_ge a bL.size with h|h
     · exact h
     · simp [Array.getElem?_eq_none h] at xd
    simp [dr] at h1
  · rw [getD_set_ne true (Ne.symm IT)] at h1
    rw [Cn eG b' hd aS gE IT] at h1
    cases h1
theorem tl {m:Array Nat} (eG:qM ops m=true) (b':tk ops m Z) {Q:Act→World→Prop} {Co:Exit→Act→World→Prop} (rG:∀ a w,Q a w→Co .normal a w):∀ (fuel:Nat) (bL:Array Bool) (a:Act) (w:World),(C w∨Region.ready .any ops bL=[])→oU m bL →
 lj P ops C A Z Q fuel bL a w→wpAny P .any ops Co fuel bL a w
 | 0,_,_,_,_,_,h=>⟨h.1,rG _ _ h.2⟩
 | fuel+1,bL,a,w,hC,hg,h=>⟨fun a8=>rG _ _ (h.1 a8),fun i al=>by
  have rH:C w:=by
   rcases hC with h|h
   · exact h
   · rw [h] at al; cases al
  have rI:=hg.set eG al
  have aa:=h.2 i al
  unfold gF at aa
  unfold wpOp
  split
  · rename_i dJ
    simp only [dJ] at aa
    exact tl eG b' rG fuel _ _ _ (.inl rH) rI aa
  · rename_i o dJ
    simp only [dJ] at aa
    split
    · rename_i hw
      simp only [hw,if_true] at aa
      refine .inl ?_
      split at aa
      · refine IL (fun v ah bG=>tl eG b' rG fuel _ _ _ ?_ rI bG.2) aa
        rcases bG.1 with e|e
        · subst e; exact .inr (Fe eG b' hg al)
        · exact .inl e
      · obtain ⟨v,aq,a6⟩:=aa
        unfold Oper.wp
        rw [aq w rH]
        exact tl eG b' rG fuel _ _ _ (.inl rH) rI a6
    · rename_i hw
      simp only [hw] at aa
      exact tl eG b' rG fuel _ _ _ (.inl rH) rI aa⟩
theorem Cp {m:Array Nat} (eG:qM ops m=true) (b':tk ops m Z) {Q:Act→World→Prop} {i:Nat} {ey:Oper} {v:Value} (al:ops[i]?=some ey) (tm:∀ (j:Nat) (o:Oper) cs b,ops[j]?=some o→o.op≠.select cs b) :
 ∀ (fuel:Nat) (bL:Array Bool) (a:Act) (w:World),C w→oU m bL →
  (∀ j eb,ops[j]?=some eb→j≠i→bL.getD j true=false→(m.getD j 0).testBit i=false→ey.apart ops eb=true) →
  i∈Region.ready .any ops bL→mJ P ops C A i ey v a →
  lj P ops C A Z Q fuel (bL.setIfInBounds i true) (a.put ey.dst v) w→lj P ops C A Z Q (fuel+1) bL a w:=by
 intro fuel
 induction fuel with
 | zero =>
  intro bL a w hC _ _ aB av H
  refine ⟨fun h=>(by rw [h] at aB; cases aB),fun j aS=>?_⟩
  by_cases fl:j=i
  · subst fl; exact av.gF al H
  · have:=ready_mono aS fl
    rw [H.1] at this
    cases this
 | succ fuel bq =>
  intro bL a w hC hg tn aB av H
  refine ⟨fun h=>(by rw [h] at aB; cases aB),fun j aS=>?_⟩
  by_cases fl:j=i
  · subst fl; exact av.gF al H
  · have h1:=H.2 j (ready_mono aS fl)
    obtain ⟨qN,eb,nO,fr⟩:=mem_ready.1 aS
    have yR:(m.getD j 0).testBit i=false:=by
     cases U:(m.getD j 0).testBit i with
     | false=>rfl
     | true =>
      have aa:=xc eG hg aS U
      rw [Fc (mem_ready.1 aB).1] at aa
      cases aa
    have aa:=IN nO (tn j eb nO fl qN yR) (fun cs b=>tm i ey cs b al) (fun cs b=>tm j eb cs b nO) av h1
    have vS:∀ k ok,ops[k]?=some ok→k≠i→(bL.setIfInBounds j true).getD k true=false →
     (m.getD k 0).testBit i=false→ey.apart ops ok=true:=fun k ok hk kX tp ho=>by
     refine tn k ok hk kX ?_ ho
     by_cases kq:j=k
     · subst kq; exact qN
     · rw [getD_set_ne true kq] at tp; exact tp
    have IU:j≠Z:=fun e=>by
     subst e
     have bT:=Cn eG b' hg aS (uN aB) (Ne.symm fl)
     rw [(mem_ready.1 aB).1] at bT; cases bT
    refine IP IU (fun jQ ah rH aq=>bq (bL.setIfInBounds j true) jQ ah rH (hg.set eG aS) vS (ready_mono aB (Ne.symm fl)) aq.1 ?_) hC aa
    rw [Array.setIfInBounds_comm _ _ fl]
    exact aq.2
theorem IV {m:Array Nat} (eG:qM ops m=true) (b':tk ops m Z) {Q:Act→World→Prop} {i:Nat} {ey:Oper} (al:ops[i]?=some ey) (bg:A i=true) (tm:∀ (j:Nat) (o:Oper) cs b,ops[j]?=some o→o.op≠.select cs b) :
 ∀ (fuel:Nat) (bL:Array Bool) (a:Act) (w:World),C w→oU m bL →
  (∀ j eb,ops[j]?=some eb→j≠i→bL.getD j true=false→(m.getD j 0).testBit i=false→ey.apart ops eb=true∧A j=false) →
  i∈Region.ready .any ops bL→Region.wanted ey (yielded ops a.tmps)=true →
  out P (fun v ah=>(i=Z∨C ah)∧lj P ops C A Z Q fuel (bL.setIfInBounds i true) (a.put ey.dst v) ah) ((execOp a.eval ey).run P w)→lj P ops C A Z Q (fuel+1) bL a w:=by
 intro fuel
 induction fuel with
 | zero =>
  intro bL a w hC _ _ aB hw H
  refine ⟨fun h=>(by rw [h] at aB; cases aB),fun j aS=>?_⟩
  by_cases fl:j=i
  · subst fl; unfold gF; simp only [al,hw,bg,if_true]; exact H
  · obtain ⟨v,ah,_,hk⟩:=Fb H
    have:=ready_mono aS fl
    rw [hk.1] at this
    cases this
 | succ fuel bq =>
  intro bL a w hC hg tn aB hw H
  refine ⟨fun h=>(by rw [h] at aB; cases aB),fun j aS=>?_⟩
  by_cases fl:j=i
  · subst fl; unfold gF; simp only [al,hw,bg,if_true]; exact H
  · obtain ⟨qN,eb,nO,fr⟩:=mem_ready.1 aS
    have yR:(m.getD j 0).testBit i=false:=by
     cases U:(m.getD j 0).testBit i with
     | false=>rfl
     | true =>
      have aa:=xc eG hg aS U
      rw [Fc (mem_ready.1 aB).1] at aa
      cases aa
    obtain ⟨yP,yS⟩:=tn j eb nO fl qN yR
    obtain ⟨xe,AG,uO⟩:=Oper.apart_spec yP
    have vS:∀ k ok,ops[k]?=some ok→k≠i→(bL.setIfInBounds j true).getD k true=false →
     (m.getD k 0).testBit i=false→ey.apart ops ok=true∧A k=false:=fun k ok hk kX tp ho=>by
     refine tn k ok hk kX ?_ ho
     by_cases kq:j=k
     · subst kq; exact qN
     · rw [getD_set_ne true kq] at tp; exact tp
    have vR:=fun cs b=>tm i ey cs b al
    have yQ:=fun cs b=>tm j eb cs b nO
    -- Xi 'IW Xj,Xk 'IX left
    have after:∀ v ah,lj P ops C A Z Q (fuel+1) (bL.setIfInBounds i true) (a.put ey.dst v) ah →
     gF P ops C A Z j (lj P ops C A Z Q fuel ((bL.setIfInBounds i true).setIfInBounds j true)) (a.put ey.dst v) ah:=fun v ah hk=>hk.2 j (ready_mono aS fl)
    unfold gF
    simp only [nO,yS,Bool.false_eq_true,if_false]
    by_cases vT:Region.wanted eb (yielded ops a.tmps)=true
    · simp only [vT,if_true]
      have get:∀ v ah,lj P ops C A Z Q (fuel+1) (bL.setIfInBounds i true) (a.put ey.dst v) ah →
       ∃ u,(∀ ah,C ah→(execOp a.eval eb).run P ah=.ok (.value u) ah)∧lj P ops C A Z Q fuel ((bL.setIfInBounds i true).setIfInBounds j true) ((a.put ey.dst v).put eb.dst u) ah:=fun v ah hk=>by
       have h1:=after v ah hk
       unfold gF at h1
       simp only [nO,yS,Bool.false_eq_true,if_false] at h1
       rw [wanted_put eb a ey.dst v xe,vT,if_pos rfl,execOp_put eb yQ a ey.dst v xe] at h1
       exact h1
      have Of:i≠Z:=fun e=>by
       subst e
       have bT:=Cn eG b' hg aB (uN aS) fl
       rw [qN] at bT; cases bT
      obtain ⟨v0,w0,Cq,IY⟩:=Fb H
      obtain ⟨u,hu,_⟩:=get v0 w0 IY
      refine ⟨u,hu,bq (bL.setIfInBounds j true) (a.put eb.dst u) w hC (hg.set eG aS) vS (ready_mono aB (Ne.symm fl)) ?_ ?_⟩
      · rw [wanted_put ey a eb.dst u uO]; exact hw
      · rw [execOp_put ey vR a eb.dst u uO]
        refine sq (fun v ah ⟨an,hk⟩=>⟨an,?_⟩) H
        obtain ⟨xf,AH,oV⟩:=get v ah hk
        have e:xf=u:=by
         have h1:=hu w hC
         rw [AH w hC] at h1
         simpa using h1
        subst e
        rw [Array.setIfInBounds_comm _ _ fl,←Act.put_comm a v xf AG]
        exact oV
    · simp only [vT,Bool.false_eq_true,if_false]
      refine bq (bL.setIfInBounds j true) (a.put eb.dst undef) w hC (hg.set eG aS) vS (ready_mono aB (Ne.symm fl)) ?_ ?_
      · rw [wanted_put ey a eb.dst undef uO]; exact hw
      · rw [execOp_put ey vR a eb.dst undef uO]
        refine sq (fun v ah ⟨an,hk⟩=>⟨an,?_⟩) H
        have h1:=after v ah hk
        unfold gF at h1
        simp only [nO] at h1
        rw [wanted_put eb a ey.dst v xe,if_neg (by simpa using vT)] at h1
        rw [Array.setIfInBounds_comm _ _ fl,←Act.put_comm a v undef AG]
        exact h1
def Og (ops : Array Oper) (m : Array Nat) (A : Nat → Bool) (bL : Array Bool) (i : Nat) : Bool :=
  (List.range ops.size).all fun j => j == i || bL.getD j true || (m.getD j 0).testBit i ||
    (match ops[i]?, ops[j]? with
     | some ey, some eb => ey.apart ops eb && !(A i && A j)
     | _, _ => true)
def uP (ops:Array Oper) (m:Array Nat) (A:Nat→Bool):Nat→Nat→Array Bool→Bool
 | 0,_,bL=>(Region.ready .any ops bL).isEmpty
 | fuel+1,k,bL=>(Region.ready .any ops bL).contains k && Og ops m A bL k && uP ops m A fuel (k+1) (bL.setIfInBounds k true)
def IZ (ops:Array Oper) (m:Array Nat) (Z:Nat):Bool:=Nat.ble ops.size Z || (List.range ops.size).all fun k=>k==Z || (m.getD Z 0).testBit k
theorem Oh {m:Array Nat} (h:IZ ops m Z=true):tk ops m Z:=fun k b' hk cA=>by
 unfold IZ at h
 rcases Bool.or_eq_true _ _▸h with h|h
 · have:=Nat.le_of_ble_eq_true h; omega
 · have:=List.all_eq_true.1 h k (List.mem_range.2 hk)
   simp only [Bool.or_eq_true,beq_iff_eq] at this
   exact this.resolve_left cA
def yT (ops:Array Oper) (A:Nat→Bool) (Z:Nat):Bool:=
 IZ ops (Region.before ops) Z && Region.noSelect ops && qM ops (Region.before ops) && uP ops (Region.before ops) A ops.size 0 (Array.replicate ops.size false)
theorem Oi {m:Array Nat} {bL:Array Bool} {i:Nat} {ey:Oper} (al:ops[i]?=some ey) (h:Og ops m A bL i=true) :
 ∀ j eb,ops[j]?=some eb→j≠i→bL.getD j true=false→(m.getD j 0).testBit i=false→ey.apart ops eb=true∧(A i && A j)=false:=by
 intro j eb aS cA a' hm;have h1:=List.all_eq_true.1 h j (List.mem_range.2 (Array.getElem?_eq_some_iff.1 aS).1);simp only [al,aS,a',hm,Bool.or_false,Bool.or_eq_true,beq_iff_eq,Bool.and_eq_true,Bool.not_eq_true'] at h1;rcases h1 with h1|h1
 · exact absurd h1 cA
 · exact h1
theorem Cr {m:Array Nat} (eG:qM ops m=true) (b':tk ops m Z) {Q:Act→World→Prop} (aF:Region.noSelect ops=true):∀ (fuel k:Nat) (bL:Array Bool) (a:Act) (w:World),(C w∨fuel=0)→oU m bL →
 k+fuel=ops.size→uP ops m A fuel k bL=true→wd P ops C A Z Q (List.range' k fuel) a w→lj P ops C A Z Q fuel bL a w
 | 0,_,_,_,_,_,_,_,eK,h=>⟨by simpa [uP] using eK,h⟩
 | fuel+1,k,bL,a,w,Cq,hg,dr,eK,h=>by
  have hC:C w:=Cq.resolve_right (by omega)
  have gE:k < ops.size:=by omega
  have a8:ops[k]?=some ops[k]:=by simp [gE]
  simp only [uP,Bool.and_eq_true,List.contains_iff_mem] at eK
  obtain ⟨⟨aB,bd⟩,vU⟩:=eK
  have vV:=Oi a8 bd
  rw [List.range'_succ] at h
  simp only [wd] at h
  have rI:=hg.set eG aB
  have vW:k=Z→fuel=0:=fun e=>by
   subst e
   have hd:=Fe eG b' hg aB
   cases fuel with
   | zero=>rfl
   | succ f =>
    simp only [uP,Bool.and_eq_true,List.contains_iff_mem] at vU
    rw [hd] at vU
    exact absurd vU.1.1 (by simp)
  have yU:∀ a w,(C w∨fuel=0)→wd P ops C A Z Q (List.range' (k+1) fuel) a w→lj P ops C A Z Q fuel (bL.setIfInBounds k true) a w:=fun a w an hk =>
   Cr eG b' aF fuel (k+1) _ a w an rI (by omega) vU hk
  unfold gF at h
  simp only [a8] at h
  by_cases hw:Region.wanted ops[k] (yielded ops a.tmps)=true
  · simp only [hw,if_true] at h
    by_cases bg:A k=true
    · simp only [bg,if_true] at h
      exact IV eG b' a8 bg (Region.noSelect_spec aF) fuel bL a w hC hg (fun j eb aS cA a' hm=>⟨(vV j eb aS cA a' hm).1,by have:=(vV j eb aS cA a' hm).2; simpa [bg] using this⟩) aB hw
       (sq (fun v ah bG=>⟨bG.1,yU _ _ (bG.1.elim (fun e=>.inr (vW e)) .inl) bG.2⟩) h)
    · simp only [bg] at h
      obtain ⟨v,bG,hk⟩:=h
      exact Cp eG b' a8 (Region.noSelect_spec aF) fuel bL a w hC hg (fun j eb aS cA a' hm=>(vV j eb aS cA a' hm).1) aB (.inl ⟨hw,by simpa using bg,bG⟩) (yU _ _ (.inl hC) hk)
  · simp only [hw] at h
    exact Cp (A:=A) (v:=undef) eG b' a8 (Region.noSelect_spec aF) fuel bL a w hC hg (fun j eb aS cA a' hm=>(vV j eb aS cA a' hm).1) aB (.inr ⟨by simpa using hw,rfl⟩) (yU _ _ (.inl hC) h)
theorem I0 {id:Nat} {Q:Exit→Act→World→Prop} {a:Act} {w:World} (hm:P.follows .mixedOrders=true) (eK:yT ops A Z=true) (hC:C w.drew)
 (h:wd P ops C A Z (fun jQ ah=>Q .normal jQ ah) (List.range' 0 ops.size) a w.drew):(Code.region id ops true).wp P Q a w:=by
 simp only [yT,Bool.and_eq_true] at eK;have b':=Oh eK.1.1.1
 have hg:oU (Region.before ops) (Array.replicate ops.size false):=fun j k aS=>by
  simp only [Array.getD_eq_getD_getElem?,Array.getElem?_replicate] at aS
  split at aS<;>simp at aS
 exact wp_region_any hm (tl (C:=C) (A:=A) (Z:=Z) eK.1.2 b' (Q:=fun jQ ah=>Q .normal jQ ah) (fun _ _ h=>h) _ _ _ _ (.inl hC) hg (Cr eK.1.2 b' eK.1.1.2 ops.size 0 _ a _ (.inl hC) hg (by omega) eK.2 h))
variable {f:FuncId} {R:Ending→World→Prop} {n:Nat}
def gG (P:Program) (f:FuncId) (R:Ending→World→Prop) (n:Nat) (C:World→Prop) (A:Nat→Bool) (Z:Nat) (ops:Array Oper) (l:List Nat) (E:Env) (k:List Item) (w:World):Prop:=
 ∀ a,Sat n E a→wd P ops C A Z (fun a w=>nM P f R k a w) l a w
theorem Xl (A:Nat→Bool) (Z:Nat) (C:World→Prop) {id:Nat} {ops:Array Oper} {E:Env} {k:List Item} {w:World} (hm:P.follows .mixedOrders=true) (eK:yT ops A Z=true)
 (h:C w.drew∧gG P f R n C A Z ops (List.range' 0 ops.size) E k w.drew):gQ P f R n E (.code (.region id ops true)::k) w:=
 fun a ao=>IJ (I0 (A:=A) (C:=C) (Z:=Z) hm eK h.1 (by
  have:=h.2 a ao
  refine cast ?_ this
  congr
  funext jQ ah
  simp))
theorem gG.nil {ops:Array Oper} {E:Env} {k:List Item} {w:World} (h:gQ P f R n E k w):gG P f R n C A Z ops [] E k w:=fun a ao=>h a ao
theorem gG.q {ops:Array Oper} {o:Oper} {i:Nat} {l:List Nat} {E:Env} {k:List Item} {w:World} {v:Value} (dJ:ops[i]?=some o) (bg:A i=false) (dL:aY P o E C v)
 (hw:want n ops E o.guard=some true) (hd:iU n o.dst=true) (h:gG P f R n C A Z ops l (pu o.dst v E) k w):gG P f R n C A Z ops (i::l) E k w:=by
 intro a ao;simp only [wd,gF,dJ,vQ ao hw,bg,if_true,Bool.false_eq_true,if_false];exact ⟨v,dL a ao.has,h _ (ao.put hd v)⟩
theorem gG.dt {ops:Array Oper} {o:Oper} {i:Nat} {l:List Nat} {E:Env} {k:List Item} {w:World} (dJ:ops[i]?=some o)
 (hw:want n ops E o.guard=some false) (hd:iU n o.dst=true) (h:gG P f R n C A Z ops l (pu o.dst undef E) k w):gG P f R n C A Z ops (i::l) E k w:=by
 intro a ao;simp only [wd,gF,dJ,vQ ao hw,Bool.false_eq_true,if_false];exact h _ (ao.put hd undef)
theorem gG.act {ops:Array Oper} {o:Oper} {i:Nat} {l:List Nat} {E:Env} {k:List Item} {w:World} (dJ:ops[i]?=some o) (bg:A i=true)
 (hw:want n ops E o.guard=some true) (hd:iU n o.dst=true) (ao:gl P o E w (fun v ah=>(i=Z∨C ah)∧gG P f R n C A Z ops l (pu o.dst v E) k ah)):gG P f R n C A Z ops (i::l) E k w:=by
 intro a aF;simp only [wd,gF,dJ,vQ aF hw,bg,if_true];exact sq (fun v ah bG=>⟨bG.1,bG.2 _ (aF.put hd v)⟩) (ao a aF.has)
end
end Go.aA
namespace Go.aA
open Go
abbrev ag:=List UInt8
def aH (s:ag):Value:=.string ⟨s.toArray⟩
def ptr (b off:Nat):Value:=.pointer (some ⟨b,off,none⟩)
theorem Xm (s:ByteArray):Value.string s=aH s.data.toList:=by simp [aH]
def Row (w:World) (b off:Nat) (cs:List Value):Prop:=∀ i v,cs[i]?=some v→w.cell? ⟨b,off+i,none⟩=some v
theorem Xn {M:Nat→Prop} {w ah:World} {b o:Nat} {v:Value} (h:w.cell? ⟨b,o,none⟩=some v) (hm:Mod M w ah) (U:¬ M b):ah.cell? ⟨b,o,none⟩=some v:=by
 unfold World.cell? at h ⊢;simp only [Option.isSome_none,Bool.false_eq_true,if_false] at h ⊢
 cases fC:w.heap[b]? with
 | none=>rw [fC] at h; cases h
 | some I1 =>
  rw [hm.keep b I1 fC U]
  rw [fC] at h
  exact h
theorem Row.keep {M:Nat→Prop} {w ah:World} {b off:Nat} {cs:List Value} (h:Row w b off cs) (hm:Mod M w ah) (U:¬ M b):Row ah b off cs:=fun i v bG=>Xn (h i v bG) hm U
theorem Row.ext {w ah:World} {b off:Nat} {cs:List Value} (h:Row w b off cs) (hm:Ext w ah):Row ah b off cs:=h.keep hm (fun x=>x)
theorem Row.eP {w:World} {b:Nat} {cs:List Value} {e:TypeId} {Xo:Nat×Nat} (h:w.heap[b]?=some (.cells cs.toArray e Xo)):Row w b 0 cs:=fun i v bG=>by
 simp [World.cell?,h,bG]
theorem Row.sub {w:World} {b off:Nat} {cs:List Value} (h:Row w b off cs) (i n:Nat) (aI:i+n≤cs.length):Row w b (off+i) ((cs.drop i).take n):=fun j v bG=>by
 rw [List.getElem?_take] at bG
 split at bG
 · rw [List.getElem?_drop] at bG
   rw [Nat.add_assoc]; exact h _ _ bG
 · cases bG
theorem Row.cell {w:World} {b off:Nat} {cs:List Value} (h:Row w b off cs) (i:Nat) (v:Value) (bG:cs[i]?=some v):w.cell? ⟨b,off+i,none⟩=some v:=h i v bG
theorem add_lit (b off i:Nat):(⟨b,off,none⟩:Addr).add i=⟨b,off+i,none⟩:=by unfold Addr.add; split<;>simp_all
def dX (P:Program) (t:TypeId):Option (Bool×Nat×Nat×List Value):=
 match P.info? t,P.underlying t with
 | some i,some d=>match i.zero with
  | some z=>some ((match d with | .struct _=>true | .array _ _=>true|_=>false),i.size,i.bytes,z.cells.toList)
  | none=>none
 | _,_=>none
section
variable {P:Program}
theorem AI {t:TypeId} {g:Bool} {n by_:Nat} {z:List Value} (h:dX P t=some (g,n,by_,z)) :
 ∃ i d js,P.info? t=some i∧P.underlying t=some d∧i.zero=some js∧i.size=n∧i.bytes=by_∧js.cells.toList=z∧(match d with | .struct _=>true | .array _ _=>true|_=>false)=g:=by
 unfold dX at h
 cases al:P.info? t with
 | none=>simp [al] at h
 | some i =>
  cases hd:P.underlying t with
  | none=>simp [al,hd] at h
  | some d =>
   cases b':i.zero with
   | none=>simp [al,hd,b'] at h
   | some js =>
    simp only [al,hd,b',Option.some.injEq,Prod.mk.injEq] at h
    exact ⟨i,d,js,rfl,rfl,b',h.2.1,h.2.2.1,h.2.2.2,h.1⟩
theorem I2 {t:TypeId} {g:Bool} {n by_:Nat} {z:List Value} (h:dX P t=some (g,n,by_,z)) (w:World):(isAgg t).run P w=.ok g w:=by
 obtain ⟨i,d,js,h1,aa,aq,a6,bT,ed,jH⟩:=AI h;unfold isAgg;simp only [Sem.run_bind,run_underlying aa,Result.andThen_ok]
 cases d<;>simp_all
theorem run_sizeOf {t:TypeId} {g:Bool} {n by_:Nat} {z:List Value} (h:dX P t=some (g,n,by_,z)) (w:World):(sizeOf t).run P w=.ok n w:=by
 obtain ⟨i,d,js,h1,aa,aq,a6,bT,ed,jH⟩:=AI h;simp [sizeOf,typeInfo,h1,a6]
theorem Oj {t:TypeId} {g:Bool} {n by_:Nat} {z:List Value} (h:dX P t=some (g,n,by_,z)) (w:World):∃ js,js.cells.toList=z∧(zeroValue t).run P w=.ok js w:=by
 obtain ⟨i,d,js,h1,aa,aq,a6,bT,ed,jH⟩:=AI h;exact ⟨js,ed,by simp [zeroValue,typeInfo,h1,aq]⟩
theorem I3 {t:TypeId} {n by_:Nat} {z:List Value} (h:dX P t=some (true,n,by_,z)) {w:World} {b off:Nat} {cs:List Value} (aB:Row w b off cs) (aI:cs.length=n) :
 (loadVar t ⟨b,off,none⟩).run P w=.ok (.agg cs.toArray) w:=by
 unfold loadVar;have a':=run_loadCells_list (P:=P) w ⟨b,off,none⟩ cs (fun j v bG=>by rw [add_lit]; exact aB.cell j v bG);rw [aI] at a';simp [I2 h,run_sizeOf h,a']
theorem Xp {t:TypeId} {n by_:Nat} {z:List Value} (h:dX P t=some (false,n,by_,z)) {w:World} {b off:Nat} {v:Value} (aB:Row w b off [v]) :
 (loadVar t ⟨b,off,none⟩).run P w=.ok v w:=by
 unfold loadVar;have:=aB.cell 0 v rfl;simp only [Nat.add_zero] at this;simp [I2 h,this]
variable {E:Env} {C:World→Prop} {d:Option Tmp} {ty:TypeId} {pos:String} {af:Array Edge} {gd:Option (Nat×Bool)}
theorem aY.move {x:Operand} {v:Value} (ad:aC E x=some v):aY P ⟨d,.move x,ty,pos,af,gd⟩ E C v:=fun a ao w _=>by
 simp [execOp,ao.aC ad]
theorem aY.assign {x:Operand} {v:Value} (ad:aC E x=some v):aY P ⟨d,.assign x,ty,pos,af,gd⟩ E C v:=fun a ao w _=>by
 simp [execOp,ao.aC ad]
theorem aY.pick {c x y:Operand} {t:Bool} {v:Value} (an:aC E c=some (.bool t)) (ad:t=true→aC E x=some v) (av:t=false→aC E y=some v) :
 aY P ⟨d,.pick c x y,ty,pos,af,gd⟩ E C v:=fun a ao w _=>by
 cases t with
 | true=>simp [execOp,ao.aC an,ao.aC (ad rfl),asBool]
 | false=>simp [execOp,ao.aC an,ao.aC (av rfl),asBool]
theorem aY.Xq {c x y:Operand} {v:Value} (an:aC E c=some (.bool true)) (ad:aC E x=some v) :
 aY P ⟨d,.pick c x y,ty,pos,af,gd⟩ E C v:=aY.pick an (fun _=>ad) (fun h=>by cases h)
theorem aY.Xr {c x y:Operand} {v:Value} (an:aC E c=some (.bool false)) (ad:aC E y=some v) :
 aY P ⟨d,.pick c x y,ty,pos,af,gd⟩ E C v:=aY.pick an (fun h=>by cases h) (fun _=>ad)
section
variable {x y:Operand} {xt yt:TypeId} {k:IntKind} {p q:Int}
theorem tq (op:BinOp) (t:TypeId) (x y:Operand) (w:World):(eqGuard op t x y (.int k p) (.int k q)).run P w=.ok () w:=by
 unfold eqGuard; split<;>simp
theorem I4 (op:BinOp) (t:TypeId) (x y:Operand) (w:World) (s iz:ByteArray):(eqGuard op t x y (.string s) (.string iz)).run P w=.ok () w:=by
 unfold eqGuard; split<;>simp
theorem aY.add (ad:aC E x=some (.int k p)) (av:aC E y=some (.int k q)):aY P ⟨d,.binOp .add xt x y yt,ty,pos,af,gd⟩ E C (.int k (k.wrap (p+q))):=fun a ao w _=>by
 simp [execOp,ao.aC ad,ao.aC av,tq,Go.binOp,Op.intArith]
theorem aY.sub (ad:aC E x=some (.int k p)) (av:aC E y=some (.int k q)):aY P ⟨d,.binOp .sub xt x y yt,ty,pos,af,gd⟩ E C (.int k (k.wrap (p-q))):=fun a ao w _=>by
 simp [execOp,ao.aC ad,ao.aC av,tq,Go.binOp,Op.intArith]
theorem aY.mul (ad:aC E x=some (.int k p)) (av:aC E y=some (.int k q)):aY P ⟨d,.binOp .mul xt x y yt,ty,pos,af,gd⟩ E C (.int k (k.wrap (p*q))):=fun a ao w _=>by
 simp [execOp,ao.aC ad,ao.aC av,tq,Go.binOp,Op.intArith]
theorem aY.quo (ad:aC E x=some (.int k p)) (av:aC E y=some (.int k q)) (a8:q≠0):aY P ⟨d,.binOp .quo xt x y yt,ty,pos,af,gd⟩ E C (.int k (k.wrap (p.tdiv q))):=fun a ao w _=>by
 simp [execOp,ao.aC ad,ao.aC av,tq,Go.binOp,Op.intDiv,a8]
theorem aY.rem (ad:aC E x=some (.int k p)) (av:aC E y=some (.int k q)) (a8:q≠0):aY P ⟨d,.binOp .rem xt x y yt,ty,pos,af,gd⟩ E C (.int k (p.tmod q)):=fun a ao w _=>by
 simp [execOp,ao.aC ad,ao.aC av,tq,Go.binOp,Op.intDiv,a8]
theorem aY.bZ (r:Int) (ad:aC E x=some (.int .i64 p)) (av:aC E y=some (.int .i64 q)) (aB:p+q=r∧-9223372036854775808≤r∧r≤9223372036854775807):aY P ⟨d,.binOp .add xt x y yt,ty,pos,af,gd⟩ E C (.int .i64 r):=by
 have h:=aY.add (P:=P) (C:=C) (d:=d) (xt:=xt) (yt:=yt) (ty:=ty) (pos:=pos) (af:=af) (gd:=gd) ad av;rw [IntWalk.i64_in _ (by omega),aB.1] at h; exact h
theorem aY.il (r:Int) (ad:aC E x=some (.int .i64 p)) (av:aC E y=some (.int .i64 q)) (aB:p-q=r∧-9223372036854775808≤r∧r≤9223372036854775807):aY P ⟨d,.binOp .sub xt x y yt,ty,pos,af,gd⟩ E C (.int .i64 r):=by
 have h:=aY.sub (P:=P) (C:=C) (d:=d) (xt:=xt) (yt:=yt) (ty:=ty) (pos:=pos) (af:=af) (gd:=gd) ad av;rw [IntWalk.i64_in _ (by omega),aB.1] at h; exact h
theorem aY.Ol (r:Int) (ad:aC E x=some (.int .i64 p)) (av:aC E y=some (.int .i64 q)) (aB:p*q=r∧-9223372036854775808≤r∧r≤9223372036854775807):aY P ⟨d,.binOp .mul xt x y yt,ty,pos,af,gd⟩ E C (.int .i64 r):=by
 have h:=aY.mul (P:=P) (C:=C) (d:=d) (xt:=xt) (yt:=yt) (ty:=ty) (pos:=pos) (af:=af) (gd:=gd) ad av;rw [IntWalk.i64_in _ (by rw [aB.1]; omega),aB.1] at h; exact h
theorem aY.rJ (r:Int) (ad:aC E x=some (.int k p)) (av:aC E y=some (.int k q)) (aB:0≤p∧q≠0∧p % q=r):aY P ⟨d,.binOp .rem xt x y yt,ty,pos,af,gd⟩ E C (.int k r):=by
 have h:=aY.rem (P:=P) (C:=C) (d:=d) (xt:=xt) (yt:=yt) (ty:=ty) (pos:=pos) (af:=af) (gd:=gd) ad av aB.2.1;rw [Int.tmod_eq_emod_of_nonneg aB.1,aB.2.2] at h; exact h
theorem aY.eq (ad:aC E x=some (.int k p)) (av:aC E y=some (.int k q)):aY P ⟨d,.binOp .eql xt x y yt,ty,pos,af,gd⟩ E C (.bool (p==q)):=fun a ao w _=>by
 simp [execOp,ao.aC ad,ao.aC av,tq,Go.binOp,Op.intCmp]
theorem aY.ne (ad:aC E x=some (.int k p)) (av:aC E y=some (.int k q)):aY P ⟨d,.binOp .neq xt x y yt,ty,pos,af,gd⟩ E C (.bool (p != q)):=fun a ao w _=>by
 simp [execOp,ao.aC ad,ao.aC av,tq,Go.binOp,Op.intCmp]
theorem aY.lt (ad:aC E x=some (.int k p)) (av:aC E y=some (.int k q)):aY P ⟨d,.binOp .lss xt x y yt,ty,pos,af,gd⟩ E C (.bool (decide (p < q))):=fun a ao w _=>by
 simp [execOp,ao.aC ad,ao.aC av,tq,Go.binOp,Op.intCmp]
theorem aY.le (ad:aC E x=some (.int k p)) (av:aC E y=some (.int k q)):aY P ⟨d,.binOp .leq xt x y yt,ty,pos,af,gd⟩ E C (.bool (decide (p≤q))):=fun a ao w _=>by
 simp [execOp,ao.aC ad,ao.aC av,tq,Go.binOp,Op.intCmp]
theorem aY.gt (ad:aC E x=some (.int k p)) (av:aC E y=some (.int k q)):aY P ⟨d,.binOp .gtr xt x y yt,ty,pos,af,gd⟩ E C (.bool (decide (q < p))):=fun a ao w _=>by
 simp [execOp,ao.aC ad,ao.aC av,tq,Go.binOp,Op.intCmp]
theorem aY.ge (ad:aC E x=some (.int k p)) (av:aC E y=some (.int k q)):aY P ⟨d,.binOp .geq xt x y yt,ty,pos,af,gd⟩ E C (.bool (decide (q≤p))):=fun a ao w _=>by
 simp [execOp,ao.aC ad,ao.aC av,tq,Go.binOp,Op.intCmp]
theorem toList_mk (s:ag):(⟨s.toArray⟩:ByteArray).toList=s:=by
 rw [ByteArray.toList_eq]
theorem aY.Cs {s t:ag} (ad:aC E x=some (aH s)) (av:aC E y=some (aH t)):aY P ⟨d,.binOp .eql xt x y yt,ty,pos,af,gd⟩ E C (.bool (s==t)):=fun a ao w _=>by
 simp [execOp,ao.aC ad,ao.aC av,aH,I4,Go.binOp,Op.stringOp]
theorem aY.Ff {s t:ag} (ad:aC E x=some (aH s)) (av:aC E y=some (aH t)):aY P ⟨d,.binOp .neq xt x y yt,ty,pos,af,gd⟩ E C (.bool (!(s==t))):=fun a ao w _=>by
 simp [execOp,ao.aC ad,ao.aC av,aH,I4,Go.binOp,Op.stringOp]
theorem aY.tr {s t:ag} (ad:aC E x=some (aH s)) (av:aC E y=some (aH t)) (a':s.length+t.length≤9223372036854775807):aY P ⟨d,.binOp .add xt x y yt,ty,pos,af,gd⟩ E C (aH (s++t)):=fun a ao w _=>by
 have h1:¬ ((9223372036854775807:Int) < ((s.length:Int)+(t.length:Int))):=by omega
 have aa:(⟨s.toArray⟩:ByteArray)++⟨t.toArray⟩=⟨(s++t).toArray⟩:=by
  apply ByteArray.ext
  simp
 have aq:(⟨s.toArray⟩:ByteArray).size=s.length:=by simp [ByteArray.size]
 have a6:(⟨t.toArray⟩:ByteArray).size=t.length:=by simp [ByteArray.size]
 simp [execOp,ao.aC ad,ao.aC av,aH,I4,Go.binOp,Op.stringOp,aa,aq,a6,IntKind.max,IntKind.signed,IntKind.bits,h1]
theorem Om (op:BinOp) (t:TypeId) (x y:Operand) (w:World) (a b:Bool):(eqGuard op t x y (.bool a) (.bool b)).run P w=.ok () w:=by
 unfold eqGuard; split<;>simp
theorem aY.Xs {s t:Bool} (hu:P.underlying xt=some .bool) (ad:aC E x=some (.bool s)) (av:aC E y=some (.bool t)):aY P ⟨d,.binOp .eql xt x y yt,ty,pos,af,gd⟩ E C (.bool (s==t)):=fun a ao w _=>by
 simp [execOp,ao.aC ad,ao.aC av,Om,Go.binOp,run_equal_bool w xt s t hu]
theorem aY.Xt {s t:Bool} (hu:P.underlying xt=some .bool) (ad:aC E x=some (.bool s)) (av:aC E y=some (.bool t)):aY P ⟨d,.binOp .neq xt x y yt,ty,pos,af,gd⟩ E C (.bool (!(s==t))):=fun a ao w _=>by
 simp [execOp,ao.aC ad,ao.aC av,Om,Go.binOp,run_equal_bool w xt s t hu]
theorem aY.not {s:Bool} (ad:aC E x=some (.bool s)):aY P ⟨d,.unOp .not xt x,ty,pos,af,gd⟩ E C (.bool (!s)):=fun a ao w _=>by
 simp [execOp,ao.aC ad,Op.unary]
end
theorem aY.extract {x:Operand} {vs:Array Value} {i:Nat} {v:Value} (ad:aC E x=some (.tuple vs)) (bG:vs[i]?=some v):aY P ⟨d,.extract x i,ty,pos,af,gd⟩ E C v:=fun a ao w _=>by
 simp [execOp,ao.aC ad,Instr.extract,bG]
def dQ (P:Program) (t:TypeId) (i:Nat):Option Nat:=
 match P.underlying t with
 | some (.struct j_)=>match j_[i]? with
  | some f=>match P.info? f.type with
   | some j=>match Nat.beq j.size 0 with
    | true=>none
    | false=>some f.offset
   | none=>none
  | none=>none
 | _=>none
theorem aY.fieldAddr {t:TypeId} {x:Operand} {i b off o:Nat} (bd:dQ P t i=some o) (ad:aC E x=some (ptr b off)) :
 aY P ⟨d,.fieldAddr t x i,ty,pos,af,gd⟩ E C (ptr b (off+o)):=fun a ao w _=>by
 unfold dQ at bd
 split at bd
 · rename_i j_ hu
   split at bd
   · rename_i f Xu
     split at bd
     · rename_i j aS
       split at bd
       · cases bd
       · rename_i U
         simp only [Option.some.injEq] at bd
         have a8:¬ j.size=0:=fun e=>by rw [e] at U; cases U
         simp [execOp,ao.aC ad,ptr,Instr.fieldAt,Instr.sureAddr,run_underlying hu,Xu,fieldPlace,sizeOf,typeInfo,aS,a8,add_lit,bd]
     · cases bd
   · cases bd
 · cases bd
theorem aY.load {t:TypeId} {x:Operand} {b off:Nat} {v:Value} (ad:aC E x=some (ptr b off)) (a':∀ w,C w→(loadVar t ⟨b,off,none⟩).run P w=.ok v w) :
 aY P ⟨d,.load t x,ty,pos,af,gd⟩ E C v:=fun a ao w hC=>by
 simp [execOp,ao.aC ad,ptr,Instr.loadAt,Instr.sureAddr,a' w hC]
theorem aY.cT {t:TypeId} {x:Operand} {b off n by_:Nat} {z:List Value} {v:Value} (aQ:dX P t=some (false,n,by_,z)) (ad:aC E x=some (ptr b off)) (aB:∀ w,C w→Row w b off [v]) :
 aY P ⟨d,.load t x,ty,pos,af,gd⟩ E C v:=aY.load ad fun w hw=>Xp aQ (aB w hw)
theorem aY.c4 {t:TypeId} {x:Operand} {b off n by_:Nat} {z cs:List Value} (aQ:dX P t=some (true,n,by_,z)) (ad:aC E x=some (ptr b off)) (aB:∀ w,C w→Row w b off cs) (aI:cs.length=n) :
 aY P ⟨d,.load t x,ty,pos,af,gd⟩ E C (.agg cs.toArray):=aY.load ad fun w hw=>I3 aQ (aB w hw) aI
end
section
variable {α:Type}
def ak (enc:α→List Value) (w:World) (F:Nat→Prop) (v:Value) (l:List α):Prop:=
 ∃ a cap,v=.slice a l.length cap∧l.length≤cap∧cap≤maxLen∧(l=[]∨∃ b off,a=some ⟨b,off,none⟩∧F b∧Row w b off (l.flatMap enc))
variable {enc:α→List Value} {w:World} {F:Nat→Prop} {v:Value} {l:List α}
theorem ak.nil:ak enc w F (.slice none 0 0) []:=⟨none,0,rfl,Nat.le_refl _,Nat.zero_le _,.inl rfl⟩
theorem ak.keep {M:Nat→Prop} {ah:World} (h:ak enc w F v l) (hm:Mod M w ah) (bO:∀ b,F b→¬ M b):ak enc ah F v l:=by
 obtain ⟨a,cap,h1,aa,aq,a6⟩:=h;refine ⟨a,cap,h1,aa,aq,?_⟩;rcases a6 with a6|⟨b,off,bT,ed,jH⟩
 · exact .inl a6
 · exact .inr ⟨b,off,bT,ed,jH.keep hm (bO b ed)⟩
theorem ak.ext {ah:World} (h:ak enc w F v l) (hm:Ext w ah):ak enc ah F v l:=h.keep hm (fun _ _ h=>h)
theorem ak.mono {F':Nat→Prop} (h:ak enc w F v l) (bO:∀ b,F b→F' b):ak enc w F' v l:=by
 obtain ⟨a,cap,h1,aa,aq,a6⟩:=h;refine ⟨a,cap,h1,aa,aq,?_⟩;rcases a6 with a6|⟨b,off,bT,ed,jH⟩
 · exact .inl a6
 · exact .inr ⟨b,off,bT,bO b ed,jH⟩
theorem ak.le (h:ak enc w F v l):l.length≤9223372036854775807:=by
 obtain ⟨a,cap,h1,aa,aq,a6⟩:=h;exact Nat.le_trans aa aq
theorem ak.shape (h:ak enc w F v l):∃ a cap,v=.slice a l.length cap:=by
 obtain ⟨a,cap,h1,aa,aq,a6⟩:=h;exact ⟨a,cap,h1⟩
theorem Fg {sz:Nat} (dr:∀ x,(enc x).length=sz):∀ (l:List α) (i:Nat) (h:i < l.length),((l.flatMap enc).drop (i*sz)).take sz=enc l[i]∧i*sz+sz≤(l.flatMap enc).length
 | x::l,0,_=>by
  refine ⟨?_,by simp [List.flatMap_cons,dr]⟩
  simp only [Nat.zero_mul,List.drop_zero,List.flatMap_cons,List.getElem_cons_zero]
  rw [←dr x,List.take_left']
  rfl
 | x::l,i+1,h=>by
  have bq:=Fg dr l i (by simpa using h)
  simp only [List.flatMap_cons,List.getElem_cons_succ]
  have e:(i+1)*sz=(enc x).length+i*sz:=by rw [dr,Nat.add_mul]; omega
  rw [e,List.drop_append,List.drop_of_length_le (by omega),Nat.add_sub_cancel_left,List.nil_append]
  refine ⟨bq.1,?_⟩
  rw [List.length_append]; have:=bq.2; omega
theorem ts {sz:Nat} (dr:∀ x,(enc x).length=sz) (l:List α):(l.flatMap enc).length=l.length*sz:=by
 induction l with
 | nil=>simp
 | cons x l bq=>simp only [List.flatMap_cons,List.length_append,dr,bq,List.length_cons,Nat.add_mul]; omega
theorem Xv {sz:Nat} (dr:∀ x,(enc x).length=sz) (l:List α) (i:Nat):(l.flatMap enc).drop (i*sz)=(l.drop i).flatMap enc:=by
 induction i generalizing l with
 | zero=>simp
 | succ i bq =>
  cases l with
  | nil=>simp
  | cons x l =>
   have e:(i+1)*sz=(enc x).length+i*sz:=by rw [dr,Nat.add_mul]; omega
   simp only [List.flatMap_cons,List.drop_succ_cons]
   rw [e,List.drop_append,List.drop_of_length_le (by omega),Nat.add_sub_cancel_left,List.nil_append,bq]
theorem On {sz:Nat} (dr:∀ x,(enc x).length=sz) (l:List α) (i:Nat):(l.flatMap enc).take (i*sz)=(l.take i).flatMap enc:=by
 induction i generalizing l with
 | zero=>simp
 | succ i bq =>
  cases l with
  | nil=>simp
  | cons x l =>
   have e:(i+1)*sz=(enc x).length+i*sz:=by rw [dr,Nat.add_mul]; omega
   simp only [List.flatMap_cons,List.take_succ_cons]
   rw [e,List.take_append,List.take_of_length_le (by omega),Nat.add_sub_cancel_left,bq]
section
variable {P:Program} {t e:TypeId}
theorem ak.at {sz by_:Nat} {g:Bool} {z:List Value} (h:ak enc w F v l) (aQ:P.underlying t=some (.slice e)) (he:dX P e=some (g,sz,by_,z)) (dr:∀ x,(enc x).length=sz) {k:IntKind} {n:Int} (i:Nat) (aI:n=(i:Int)) (al:i < l.length) :
 ∃ b off,(∀ w,(Instr.indexAt t v (.int k n)).run P w=.ok (ptr b off) w)∧F b∧Row w b off (enc l[i]):=by
 obtain ⟨a,cap,rfl,aa,aq,a6⟩:=h;rcases a6 with rfl|⟨b,off,rfl,bT,ed⟩
 · simp at al
 · refine ⟨b,off+i*sz,fun w=>?_,bT,?_⟩
   · have:(0:Int)≤n∧n < (l.length:Int):=by omega
     have e:n.toNat=i:=(by omega);simp [Instr.indexAt,asIntOf,run_underlying aQ,this,run_sizeOf he,add_lit,ptr,e]
   · have bd:=Fg dr l i al;have:=ed.sub (i*sz) sz bd.2;rw [bd.1] at this;exact this
end
variable {P:Program} {E:Env} {C:World→Prop} {d:Option Tmp} {ty:TypeId} {pos:String} {af:Array Edge} {gd:Option (Nat×Bool)}
theorem aY.indexAddr {t:TypeId} {x y:Operand} {v u p:Value} (ad:aC E x=some v) (av:aC E y=some u) (h:∀ w,(Instr.indexAt t v u).run P w=.ok p w):aY P ⟨d,.indexAddr t x y,ty,pos,af,gd⟩ E C p:=fun a ao w _=>by
 simp [execOp,ao.aC ad,ao.aC av,h w]
theorem aY.len {t e:TypeId} {x:Operand} {a:Option Addr} {n c:Nat} (hu:P.underlying t=some (.slice e)) (ad:aC E x=some (.slice a n c)):aY P ⟨d,.call { callee:=.builtin .len,args:=#[x],argTypes:=#[t] },ty,pos,af,gd⟩ E C (.int .i64 n):=fun s ao w _=>by
 simp [execOp,resolve,invoke,builtin,ao.aC ad,Builtin.len_,goInt,run_underlying hu]
theorem aY.ca {t e:TypeId} {x:Operand} (hu:P.underlying t=some (.slice e)) (h:ak enc w F v l) (ad:aC E x=some v):aY P ⟨d,.call { callee:=.builtin .len,args:=#[x],argTypes:=#[t] },ty,pos,af,gd⟩ E C (.int .i64 l.length):=by
 obtain ⟨a,c,rfl⟩:=h.shape;exact aY.len hu ad
theorem aY.mK {t:TypeId} {x:Operand} {s:ag} (hu:P.underlying t=some .string) (ad:aC E x=some (aH s)):aY P ⟨d,.call { callee:=.builtin .len,args:=#[x],argTypes:=#[t] },ty,pos,af,gd⟩ E C (.int .i64 s.length):=fun a ao w _=>by
 have aq:(⟨s.toArray⟩:ByteArray).size=s.length:=by simp [ByteArray.size]
 simp [execOp,resolve,invoke,builtin,ao.aC ad,aH,Builtin.len_,goInt,run_underlying hu,aq]
theorem Oo (k:IntKind) (p q:Int) (w:World):(Builtin.min2 (.int k p) (.int k q)).run P w=.ok (.int k (min p q)) w:=by
 simp only [Builtin.min2,Sem.run_pure];rw [Int.min_def];split<;>split<;>first|rfl|omega
theorem Xw (k:IntKind) (p q:Int) (w:World):(Builtin.max2 (.int k p) (.int k q)).run P w=.ok (.int k (max p q)) w:=by
 simp only [Builtin.max2,Sem.run_pure];rw [Int.max_def];split<;>split<;>first|rfl|(congr 2; omega)|omega
theorem aY.min {x y:Operand} {k:IntKind} {p q:Int} {lI:Array TypeId} (ad:aC E x=some (.int k p)) (av:aC E y=some (.int k q)):aY P ⟨d,.call { callee:=.builtin .min,args:=#[x,y],argTypes:=lI },ty,pos,af,gd⟩ E C (.int k (Min.min p q)):=fun a ao w _=>by
 simp [execOp,resolve,invoke,builtin,ao.aC ad,ao.aC av,Builtin.min_,Oo]
theorem aY.max {x y:Operand} {k:IntKind} {p q:Int} {lI:Array TypeId} (ad:aC E x=some (.int k p)) (av:aC E y=some (.int k q)):aY P ⟨d,.call { callee:=.builtin .max,args:=#[x,y],argTypes:=lI },ty,pos,af,gd⟩ E C (.int k (Max.max p q)):=fun a ao w _=>by
 simp [execOp,resolve,invoke,builtin,ao.aC ad,ao.aC av,Builtin.max_,Xw]
theorem aY.Oq {x y z u:Operand} {k:IntKind} {p q r t:Int} {lI:Array TypeId} (ad:aC E x=some (.int k p)) (av:aC E y=some (.int k q)) (b':aC E z=some (.int k r)) (hu:aC E u=some (.int k t)):aY P ⟨d,.call { callee:=.builtin .min,args:=#[x,y,z,u],argTypes:=lI },ty,pos,af,gd⟩ E C (.int k (Min.min (Min.min (Min.min p q) r) t)):=fun a ao w _=>by
 simp [execOp,resolve,invoke,builtin,ao.aC ad,ao.aC av,ao.aC b',ao.aC hu,Builtin.min_,Oo]
theorem aY.rK {s t:TypeId} {x:Operand} {k iy:IntKind} {p:Int} (aF:(P.underlying s).isSome=true) (aQ:P.underlying t=some (.int iy)) (ad:aC E x=some (.int k p)):aY P ⟨d,.convert s t x,ty,pos,af,gd⟩ E C (.int iy (iy.wrap p)):=fun a ao w _=>by
 obtain ⟨p4,yV⟩:=Option.isSome_iff_exists.1 aF
 simp [execOp,ao.aC ad,convert,run_underlying yV,run_underlying aQ,Conv.intToInt]
def eX (r:Int):ag:=(Utf8.encode r).data.toList
theorem aY.uQ {s t:TypeId} {x:Operand} {k:IntKind} {p:Int} (aF:(P.underlying s).isSome=true) (aQ:P.underlying t=some .string) (ad:aC E x=some (.int k p)):aY P ⟨d,.convert s t x,ty,pos,af,gd⟩ E C (aH (eX p)):=fun a ao w _=>by
 simp [execOp,ao.aC ad,run_convert_int_string w s t k p aF aQ,aH,eX]
theorem aY.Xx {t:TypeId} {x y:Operand} {s:ag} {k:IntKind} {n:Int} (i:Nat) (aQ:P.underlying t=some .string) (ad:aC E x=some (aH s)) (av:aC E y=some (.int k n)) (aI:n=(i:Int)) (al:i < s.length) :
 aY P ⟨d,.index t x y,ty,pos,af,gd⟩ E C (.int .u8 (s[i].toNat:Int)):=fun a ao w _=>by
 have h1:(⟨s.toArray⟩:ByteArray)[i]?=some s[i]:=by
  have gE:i < (⟨s.toArray⟩:ByteArray).size:=by simpa [ByteArray.size] using al
  rw [getElem?_pos _ i gE]
  rfl
 have aa:(0:Int)≤n:=by omega
 have aq:n.toNat=i:=by omega
 simp [execOp,ao.aC ad,ao.aC av,Instr.index,asIntOf,aH,run_underlying aQ,aa,aq,h1]
theorem sr {k:IntKind} {n:Int} {y i:Nat} (code:BoundsCode) (aI:n=(i:Int)) (al:i≤y) (w:World):(Instr.sliceBound (.int k n) y code).run P w=.ok i w:=by
 have h1:0≤n∧n≤(y:Int):=(by omega);have aa:n.toNat=i:=(by omega);simp [Instr.sliceBound,asIntOf,h1,aa]
theorem I5 (s:ag) (i j:Nat):(⟨s.toArray⟩:ByteArray).extract i j=⟨((s.take j).drop i).toArray⟩:=by
 apply ByteArray.ext;rw [ByteArray.data_extract];apply Array.ext';simp [List.drop_take]
theorem aY.I6 {t:TypeId} {x y:Operand} {s:ag} {k:IntKind} {n:Int} (i:Nat) (aQ:P.underlying t=some .string) (ad:aC E x=some (aH s)) (av:aC E y=some (.int k n)) (aI:n=(i:Int)) (al:i≤s.length) :
 aY P ⟨d,.slice t x (some y) none none,ty,pos,af,gd⟩ E C (aH (s.drop i)):=fun a ao w _=>by
 have aq:(⟨s.toArray⟩:ByteArray).size=s.length:=by simp [ByteArray.size]
 simp [execOp,ao.aC ad,ao.aC av,Instr.sliceAt,Instr.slice,Instr.sliceBounds,aH,run_underlying aQ,aq,sr _ aI al,I5]
theorem aY.I7 {t:TypeId} {x y:Operand} {s:ag} {k:IntKind} {n:Int} (i:Nat) (aQ:P.underlying t=some .string) (ad:aC E x=some (aH s)) (av:aC E y=some (.int k n)) (aI:n=(i:Int)) (al:i≤s.length) :
 aY P ⟨d,.slice t x none (some y) none,ty,pos,af,gd⟩ E C (aH (s.take i)):=fun a ao w _=>by
 have aq:(⟨s.toArray⟩:ByteArray).size=s.length:=by simp [ByteArray.size]
 simp [execOp,ao.aC ad,ao.aC av,Instr.sliceAt,Instr.slice,Instr.sliceBounds,aH,run_underlying aQ,aq,sr _ aI al,I5]
theorem ak.part {t e:TypeId} {sz by_:Nat} {g:Bool} {z:List Value} (h:ak enc w F v l) (aQ:P.underlying t=some (.slice e)) (he:dX P e=some (g,sz,by_,z)) (dr:∀ x,(enc x).length=sz)
 {cn al:Option Value} (i j:Nat) (AJ:(cn=none∧i=0)∨∃ k n,cn=some (.int k n)∧n=(i:Int)) (ot:(al=none∧j=l.length)∨∃ k n,al=some (.int k n)∧n=(j:Int)) (l5:i≤j) (aS:j≤l.length) :
 ∃ g_,(∀ w,(Instr.sliceAt t v cn al none).run P w=.ok g_ w)∧ak enc w F g_ ((l.take j).drop i):=by
 have U:∀ (cap:Nat) (an:l.length≤cap) (w:World),(Instr.sliceBounds true l.length cap cn al none).run P w=.ok (i,j,cap) w:=by
  intro cap an w
  rcases AJ with ⟨rfl,rfl⟩|⟨k,n,rfl,aI⟩<;>rcases ot with ⟨rfl,rfl⟩|⟨iy,m,rfl,hm⟩
  · simp [Instr.sliceBounds]
  · simp [Instr.sliceBounds,sr _ hm (Nat.le_trans aS an)]
  · simp [Instr.sliceBounds,sr _ aI l5]
  · simp [Instr.sliceBounds,sr _ hm (Nat.le_trans aS an),sr _ aI l5]
 obtain ⟨a,cap,rfl,aa,aq,a6⟩:=h;have hlen:((l.take j).drop i).length=j-i:=(by rw [List.length_drop,List.length_take]; omega);refine ⟨.slice (if cap=i then a else a.map (·.add (i*sz))) (j-i) (cap-i),fun w=>?_,?_⟩
 · simp [Instr.sliceAt,Instr.slice,run_underlying aQ,U cap aa w,run_sizeOf he]
 · refine ⟨_,cap-i,by rw [hlen],by omega,by omega,?_⟩;by_cases aI:(l.take j).drop i=[]
   · exact .inl aI
   · rcases a6 with a6|⟨b,off,rfl,bT,ed⟩
     · exact absurd (by subst a6; simp) aI
     · have fl:i < j:=by
        rcases Nat.lt_or_ge i j with h|h
        · exact h
        · exact absurd (List.eq_nil_of_length_eq_zero (by omega)) aI
       have an:cap≠i:=(by omega);refine .inr ⟨b,off+i*sz,by rw [if_neg an]; simp [add_lit],bT,?_⟩;have uR:=ts dr l
       have hle:i*sz+(j-i)*sz≤(l.flatMap enc).length:=by
        rw [uR,←Nat.add_mul]
        exact Nat.mul_le_mul_right _ (by omega)
       have:=ed.sub (i*sz) ((j-i)*sz) hle;rw [Xv dr,On dr,←List.drop_take] at this;exact this
theorem aY.ss {t:TypeId} {x:Operand} {cn al Ot:Option Operand} {v g_:Value} {yW tt:Option Value} (ad:aC E x=some v) (AJ:cn.map (aC E)=yW.map some) (ot:al.map (aC E)=tt.map some) (Xy:Ot=none)
 (h:∀ w,(Instr.sliceAt t v yW tt none).run P w=.ok g_ w):aY P ⟨d,.slice t x cn al Ot,ty,pos,af,gd⟩ E C g_:=fun a ao w _=>by
 have h1:cn.map a.eval=yW:=by
  cases cn<;>cases yW<;>simp at AJ ⊢
  exact ao.aC AJ
 have aa:al.map a.eval=tt:=by
  cases al<;>cases tt<;>simp at ot ⊢
  exact ao.aC ot
 subst Xy
 simp [execOp,ao.aC ad,h1,aa,h w]
theorem aY.build {t:TypeId} {gm:Array (Nat×Operand)} {vs:Array (Nat×Value)} {v:Value} (hp:(gm.toList.map fun p=>(aC E p.2).map (p.1,·))=vs.toList.map some) (aB:∀ w,(Instr.build t vs).run P w=.ok v w) :
 aY P ⟨d,.build t gm,ty,pos,af,gd⟩ E C v:=fun a ao w _=>by
 have h1:(gm.map fun (i,x)=>(i,a.eval x))=vs:=by
  apply Array.ext'
  rw [Array.toList_map]
  have aux:∀ (l:List (Nat×Operand)) (r:List (Nat×Value)),(l.map fun p=>(aC E p.2).map (p.1,·))=r.map some→l.map (fun x=>(x.1,a.eval x.2))=r:=by
   intro l
   induction l with
   | nil=>intro r h; cases r<;>simp_all
   | cons p l bq =>
    intro r h
    cases r with
    | nil=>simp at h
    | cons q r =>
     simp only [List.map_cons,List.cons.injEq] at h ⊢
     refine ⟨?_,bq r h.2⟩
     cases he:aC E p.2 with
     | none=>simp [he] at h
     | some u =>
      simp only [he,Option.map_some,Option.some.injEq] at h
      rw [ao.aC he]; exact h.1
  exact aux _ _ hp
 simp only [execOp,h1,Sem.run_bind,aB w,Result.andThen_ok,Sem.run_pure]
end
end Go.aA
namespace Go.aA
open Go
def ez (w:World) (b:Nat) (cs:List Value) (e:TypeId):Prop:=w.heap[b]?=some (.cells cs.toArray e (0,0))
theorem ez.keep {M:Nat→Prop} {w ah:World} {b:Nat} {cs:List Value} {e:TypeId} (h:ez w b cs e) (hm:Mod M w ah) (U:¬ M b):ez ah b cs e:=hm.keep _ _ h U
theorem ez.ext {w ah:World} {b:Nat} {cs:List Value} {e:TypeId} (h:ez w b cs e) (hm:Ext w ah):ez ah b cs e:=hm.keep _ _ h (fun x=>x)
theorem ez.lt {w:World} {b:Nat} {cs:List Value} {e:TypeId} (h:ez w b cs e):b < w.heap.size:=(Array.getElem?_eq_some_iff.1 h).1
theorem ez.row {w:World} {b:Nat} {cs:List Value} {e:TypeId} (h:ez w b cs e):Row w b 0 cs:=Row.eP h
theorem ez.part {w:World} {b:Nat} {cs:List Value} {e:TypeId} (h:ez w b cs e) (i n:Nat) (aI:i+n≤cs.length):Row w b i ((cs.drop i).take n):=by
 have:=h.row.sub i n aI; simpa using this
theorem ez.cell {w:World} {b:Nat} {cs:List Value} {e:TypeId} (h:ez w b cs e) (i:Nat) (v:Value) (bG:cs[i]?=some v):Row w b i [v]:=by
 have gE:i < cs.length:=(List.getElem?_eq_some_iff.1 bG).1;have:=h.part i 1 (by omega)
 have jh:(cs.drop i).take 1=[v]:=by
  rw [List.drop_eq_getElem_cons gE]
  have:=(List.getElem?_eq_some_iff.1 bG).2
  simp [this]
 rwa [jh] at this
theorem Fh (w:World) (g:Nat) (c:Array Value):Mod (fun i=>i=g) w (w.setRow g c):=
 ⟨rfl,rfl,rfl,by simp [World.setRow],fun b o U cA=>by
  rw [setRow_other w g b c (fun e=>cA e)]; exact U⟩
section
variable {P:Program} {E:Env} {d:Option Tmp} {ty:TypeId} {pos:String} {af:Array Edge} {gd:Option (Nat×Bool)} {w:World} {K:Value→World→Prop}
theorem gl.box {t:TypeId} {x:Operand} {v:Value} (cs:List Value) (ad:aC E x=some v) (bG:v.cells.toList=cs) (eC:∀ ah b,Ext w ah→b=w.heap.size→ah.heap.size=w.heap.size+1→ez ah b cs t→K (ptr b 0) ah) :
 gl P ⟨d,.box t x,ty,pos,af,gd⟩ E w K:=fun a ao=>by
 have h:=eC (w.alloc (.cells cs.toArray t)) w.heap.size (Mod.alloc _ _ _) rfl (by simp) (by
  show (w.heap.push _)[w.heap.size]?=_
  simp)
 have e:v.cells=cs.toArray:=by rw [←bG]
 simp [execOp,ao.aC ad,Instr.box,newVar,newRow,out,e]
 exact h
theorem gl.alloc {t:TypeId} {g:Bool} {n by_:Nat} {z:List Value} (aQ:dX P t=some (g,n,by_,z)) (eC:∀ ah b,Ext w ah→b=w.heap.size→ah.heap.size=w.heap.size+1→ez ah b z t→K (ptr b 0) ah) :
 gl P ⟨d,.alloc t,ty,pos,af,gd⟩ E w K:=fun a ao=>by
 have h:=eC (w.alloc (.cells z.toArray t)) w.heap.size (Mod.alloc _ _ _) rfl (by simp) (by
  show (w.heap.push _)[w.heap.size]?=_
  simp)
 obtain ⟨js,b',aB⟩:=Oj aQ w
 have e:js.cells=z.toArray:=by rw [←b']
 simp [execOp,Instr.alloc,aB,newVar,newRow,out,e]
 exact h
theorem gl.store {t e:TypeId} {x y:Operand} {v:Value} {b off n by_:Nat} {g:Bool} {z cs vs:List Value} (aQ:dX P t=some (g,n,by_,z)) (ad:aC E x=some (ptr b off)) (av:aC E y=some v)
 (bG:v.cells.toList=vs) (aI:vs.length=n) (h1:vs.all (·.oneCell')=true) (U:ez w b cs e) (a':off+n≤cs.length)
 (eC:∀ ah,Mod (fun i=>i+1=b+1) w ah→ah.heap.size=w.heap.size→ez ah b (cs.take off++vs++cs.drop (off+n)) e→K undef ah):gl P ⟨d,.store t x y,ty,pos,af,gd⟩ E w K:=fun a ao=>by
 have lk:=run_storeCells_at P b off e vs 0 cs.toArray w U (by simp; omega) (fun u hu=>List.all_eq_true.1 h1 u hu)
 have dr:v.cells.size=n:=by rw [←Array.length_toList,bG]; exact aI
 have h:=eC (w.setRow b (cs.take off++vs++cs.drop (off+n)).toArray) ((Fh _ _ _).weaken (fun i al _=>by omega)) (by simp [World.setRow]) (by
  have:=setRow_heap w b cs.toArray (cs.take off++vs++cs.drop (off+n)).toArray e (0,0) U
  exact this)
 simp only [Nat.add_zero,aI] at lk
 simp [execOp,ao.aC ad,ao.aC av,ptr,Instr.storeAt,Instr.sureAddr,storeVar,run_sizeOf aQ,dr,bG,lk,out]
 simpa using h
def bX (P:Program) (g:FuncId):Bool:=
 match P.funcs[g]? with
 | some fn => (!(fn.name == "runtime.NumGoroutine")) && fn.body.isSome
 | none=>false
theorem Xz {g:FuncId} (h:bX P g=true) (args:Array Value) (w:World):(callFunc g args).run P w=.ok (.enter g args) w:=by
 unfold bX at h
 cases bd:P.funcs[g]? with
 | none=>simp [bd] at h
 | some fn =>
  simp only [bd,Bool.and_eq_true,Bool.not_eq_true'] at h
  have h1 : ¬ (fn.name = "runtime.NumGoroutine") := by simpa using h.1
  cases U:fn.body with
  | none=>simp [U] at h
  | some c=>simp [callFunc,bd,h1,U]
def pj (E:Env):List Operand→Option (List Value)
 | []=>some []
 | x::r=>match aC E x with
  | some v=>match pj E r with
   | some vs=>some (v::vs)
   | none=>none
  | none=>none
theorem Has.pj {a:Act} (ao:Has E a):∀ {xs:List Operand} {vs:List Value},aA.pj E xs=some vs→xs.map a.eval=vs
 | [],vs,h=>by simp [aA.pj] at h; simp [h]
 | x::r,vs,h=>by
  simp only [aA.pj] at h
  cases ad:aA.aC E x with
  | none=>simp [ad] at h
  | some v =>
   cases aB:aA.pj E r with
   | none=>simp [ad,aB] at h
   | some us =>
    simp only [ad,aB,Option.some.injEq] at h
    rw [←h,List.map_cons,ao.aC ad,Has.pj ao aB]
def aj (uS:Value→World→Prop):Ending→World→Prop:=fun e ah=>∃ v,e=.returned v∧uS v ah
theorem gl.call {g:FuncId} {c:Operand} {xs:List Operand} {lI:Array TypeId} {first cap:List Value} {vs:List Value} {uS:Value→World→Prop} (aO:bX P g=true) (an:aC E c=some (.func (.func g) first.toArray cap.toArray))
 (ad:pj E xs=some vs) (h:Calls P g (first++vs++cap).toArray w (aj uS)) (eC:∀ v ah,uS v ah→K v ah) :
 gl P ⟨d,.call { callee:=.value c,args:=xs.toArray,argTypes:=lI },ty,pos,af,gd⟩ E w K:=fun a ao=>by
 have Ct:xs.toArray.map a.eval=vs.toArray:=by
  apply Array.ext'
  simpa using ao.pj ad
 have:(execOp a.eval ⟨d,.call { callee:=.value c,args:=xs.toArray,argTypes:=lI },ty,pos,af,gd⟩).run P w=.ok (.enter g (first++vs++cap).toArray) w:=by
  simp only [execOp,resolve,ao.aC an,Ct,Deferred.ofValue,Sem.run_bind,Sem.run_pure,Result.andThen_ok,invoke]
  rw [Xz aO]
  simp
 rw [this]
 exact Calls.mono h (fun e ah ⟨v,he,bG⟩=>⟨v,he,eC _ _ bG⟩)
theorem Ou (P:Program) (sz:Nat):∀ (vs:List Value) (k:Nat) (pre rest:List Value),pre.length=k*sz→rest.length=vs.length*sz→(∀ v∈vs,v.cells.size=sz) →
 Instr.fill (fun i=>some (i*sz,sz)) (pre++rest).toArray ((vs.zipIdx k).map fun p=>(p.2,p.1))=some (pre++vs.flatMap (fun v=>v.cells.toList)).toArray
 | [],k,pre,rest,hp,aB,h=>by
  have:rest=[]:=List.eq_nil_of_length_eq_zero (by simpa using aB)
  simp [Instr.fill,this]
 | v::vs,k,pre,rest,hp,aB,h=>by
  have bG:v.cells.size=sz:=h v (by simp)
  have hlen:rest.length=sz+vs.length*sz:=by simpa [Nat.add_mul,Nat.add_comm] using aB
  simp only [List.zipIdx_cons,List.map_cons,Instr.fill]
  have an:(decide (v.cells.size≠sz) || decide (k*sz+v.cells.size > (pre++rest).toArray.size))=false:=by
   simp [bG,hp,hlen]
  simp only [ne_eq] at an
  rw [if_neg (by simpa using an)]
  have XA:∀ (cs:List Value) (j:Nat) (arr:Array Value) (AK uT:List Value) (post:List Value),arr=(AK++uT++post).toArray→AK.length=k*sz+j→uT.length=cs.length →
   (cs.zipIdx j).foldl (fun (a:Array Value) (x:Value×Nat)=>a.setIfInBounds (k*sz+x.2) x.1) arr=(AK++cs++post).toArray:=by
   intro cs
   induction cs with
   | nil=>intro j arr AK uT post ao h1 aa; have:uT=[]:=List.eq_nil_of_length_eq_zero (by simpa using aa); simp [ao,this]
   | cons c cs bq =>
    intro j arr AK uT post ao h1 aa
    cases uT with
    | nil=>simp at aa
    | cons m uT =>
     simp only [List.zipIdx_cons,List.foldl_cons]
     have:=bq (j+1) (arr.setIfInBounds (k*sz+j) c) (AK++[c]) uT post (by
      subst ao
      apply Array.ext'
      rw [Array.toList_setIfInBounds]
      simp only [List.append_assoc,List.cons_append,List.nil_append]
      rw [←h1,List.set_append_right _ _ (Nat.le_refl _)]
      simp) (by simp [h1]; omega) (by simpa using aa)
     simpa using this
  have bd:=XA v.cells.toList 0 (pre++rest).toArray pre (rest.take sz) (rest.drop sz) (by simp [List.append_assoc]) (by simpa using hp) (by simp [bG]; omega)
  have b':(v.cells.zipIdx.foldl (fun cs (x:Value×Nat)=>cs.setIfInBounds (k*sz+x.2) x.1) (pre++rest).toArray)=(pre++v.cells.toList++rest.drop sz).toArray:=by
   rw [←Array.foldl_toList,Array.toList_zipIdx]
   exact bd
  have bq:=Ou P sz vs (k+1) (pre++v.cells.toList) (rest.drop sz) (by simp [hp,bG,Nat.add_mul]) (by simp [hlen]) (fun u hu=>h u (by simp [hu]))
  rw [b']
  simp only [List.flatMap_cons]
  rw [←List.append_assoc]
  exact bq
theorem gl.buildSlice {t e:TypeId} {len sz by_:Nat} {g:Bool} {z:List Value} {gm:Array (Nat×Operand)} (vs:List Value) (aQ:P.underlying t=some (.slice e)) (he:dX P e=some (g,sz,by_,z))
 (hp:(gm.toList.map fun p=>(aC E p.2).map (p.1,·))=(vs.zipIdx.map fun p=>(p.2,p.1)).map some) (hlen:vs.length=len) (dr:(vs.all fun v=>v.cells.size==sz)=true) (ake:len*sz≤16777216)
 (eC:∀ ah b,Ext w ah→b=w.heap.size→ah.heap.size=w.heap.size+1→ez ah b (vs.flatMap fun v=>v.cells.toList) e→K (.slice (some ⟨b,0,none⟩) len len) ah) :
 gl P ⟨d,.buildSlice t len gm,ty,pos,af,gd⟩ E w K:=fun a ao=>by
 have h1:(gm.map fun (i,x)=>(i,a.eval x))=((vs.zipIdx.map fun p=>(p.2,p.1))).toArray:=by
  apply Array.ext'
  rw [Array.toList_map]
  have aux:∀ (l:List (Nat×Operand)) (r:List (Nat×Value)),(l.map fun p=>(aC E p.2).map (p.1,·))=r.map some→l.map (fun x=>(x.1,a.eval x.2))=r:=by
   intro l
   induction l with
   | nil=>intro r h; cases r<;>simp_all
   | cons p l bq =>
    intro r h
    cases r with
    | nil=>simp at h
    | cons q r =>
     simp only [List.map_cons,List.cons.injEq] at h ⊢
     refine ⟨?_,bq r h.2⟩
     cases bG:aC E p.2 with
     | none=>simp [bG] at h
     | some u =>
      simp only [bG,Option.map_some,Option.some.injEq] at h
      rw [ao.aC bG]; exact h.1
  exact aux _ _ hp
 obtain ⟨js,b',aB⟩:=Oj he w
 have fr:∀ v∈vs,v.cells.size=sz:=fun v bG=>by have:=List.all_eq_true.1 dr v bG; simpa using this
 have l6:¬ (16777216 < len*sz):=by omega
 have h:=eC (w.alloc (.cells (vs.flatMap fun v=>v.cells.toList).toArray e)) w.heap.size (Mod.alloc _ _ _) rfl (by simp) (by
  show (w.heap.push _)[w.heap.size]?=_
  simp)
 have key:∀ l7:Array Value,l7.size=len*sz→Instr.fill (fun i=>some (i*sz,sz)) l7 (vs.zipIdx.map fun p=>(p.2,p.1))=some (vs.flatMap fun v=>v.cells.toList).toArray:=fun l7 vX=>by
  have:=Ou P sz vs 0 [] l7.toList (by simp) (by simp [vX,hlen]) fr
  simpa using this
 by_cases a8:len*sz=0
 · have hk:=key (Array.map (fun _=>default) (Array.range 0)) (by simpa using a8.symm)
   simp [execOp,h1,Instr.buildSlice,run_underlying aQ,run_sizeOf he,a8,out,newRow,hk]
   exact h
 · have hk:=key ((Array.range (len*sz)).map (js.cells[· % js.cells.size]!)) (by simp)
   simp [execOp,h1,Instr.buildSlice,run_underlying aQ,run_sizeOf he,a8,l6,aB,out,newRow,hk]
   exact h
end
def b5 (g:Nat):Nat→Prop:=fun b=>b+1=g
def aR (cn al:Nat):Nat→Prop:=fun b=>cn≤b∧b < al
theorem Mod.gW {g:Nat} {w ah:World} (h:Ext w ah):Mod (b5 g) w ah:=Ext.mod h _
theorem Mod.Ov {w ah:World} (h:Mod (b5 0) w ah):Ext w ah:=h.weaken (fun i al _=>by simp [b5] at al)
theorem Ext.hq {g:Nat} {w0 w ah:World} (h:Ext w0 w) (k:Mod (b5 g) w ah) (aO:g=0∨w0.heap.size < g):Ext w0 ah:=
 h.then k (fun i al a'=>by unfold b5 at al; omega)
theorem ak.b0 {α:Type} {enc:α→List Value} {w:World} {cn al yW tt:Nat} {v:Value} {l:List α} (h:ak enc w (aR cn al) v l) (h1:yW≤cn) (aa:al≤tt):ak enc w (aR yW tt) v l:=
 h.mono fun b U=>by unfold aR at *; omega
theorem ak.bt {α:Type} {enc:α→List Value} {w ah:World} {cn al g:Nat} {v:Value} {l:List α} (h:ak enc w (aR cn al) v l) (hm:Mod (b5 g) w ah) (aO:g≤cn∨al < g):ak enc ah (aR cn al) v l:=
 h.keep hm fun b U ad=>by unfold aR b5 at *; omega
theorem Row.bt {w ah:World} {b off g:Nat} {cs:List Value} (h:Row w b off cs) (hm:Mod (b5 g) w ah) (aO:b+1≠g):Row ah b off cs:=h.keep hm aO
theorem ez.bt {w ah:World} {b g:Nat} {cs:List Value} {e:TypeId} (h:ez w b cs e) (hm:Mod (b5 g) w ah) (aO:b+1≠g):ez ah b cs e:=h.keep hm aO
section
variable {α:Type}
def Acc (enc:α→List Value) (e:TypeId) (sz:Nat) (w:World) (g:Nat) (v:Value) (l:List α):Prop:=
 (v=.slice none 0 0∧l=[]∧g=0) ∨
 ∃ b cap cur,g=b+1∧v=.slice (some ⟨b,0,none⟩) l.length cap∧w.heap[b]?=some (.cells cur e (0,0))∧l.length≤cap∧cap≤maxLen∧cur.size=cap*sz∧cur.toList.take (l.length*sz)=l.flatMap enc
variable {enc:α→List Value} {e:TypeId} {sz:Nat} {w:World} {g:Nat} {v:Value} {l:List α}
theorem Acc.nil:Acc enc e sz w 0 (.slice none 0 0) []:=.inl ⟨rfl,rfl,rfl⟩
theorem Acc.keep {M:Nat→Prop} {ah:World} (h:Acc enc e sz w g v l) (hm:Mod M w ah) (aO:∀ b,g=b+1→¬ M b):Acc enc e sz ah g v l:=by
 rcases h with h|⟨b,cap,cur,a8,h1,aa,aq⟩
 · exact .inl h
 · exact .inr ⟨b,cap,cur,a8,h1,hm.keep _ _ aa (aO b a8),aq⟩
theorem Acc.ext {ah:World} (h:Acc enc e sz w g v l) (hm:Ext w ah):Acc enc e sz ah g v l:=h.keep hm (fun _ _ x=>x)
theorem Acc.bt {e':Nat} {ah:World} (h:Acc enc e sz w g v l) (hm:Mod (b5 e') w ah) (aO:g≠e'∨g=0):Acc enc e sz ah g v l:=
 h.keep hm fun b U ad=>by unfold b5 at ad; omega
theorem Acc.lt (h:Acc enc e sz w g v l):g≤w.heap.size:=by
 rcases h with ⟨_,_,h⟩|⟨b,cap,cur,a8,_,aa,_⟩
 · omega
 · have:=(Array.getElem?_eq_some_iff.1 aa).1; omega
theorem Acc.le (h:Acc enc e sz w g v l):l.length≤9223372036854775807:=by
 rcases h with ⟨_,h,_⟩|⟨b,cap,cur,_,_,_,aq,a6,_⟩
 · simp [h]
 · exact Nat.le_trans aq a6
theorem Acc.bl (h:Acc enc e sz w g v l):ak enc w (aR (g-1) g) v l:=by
 rcases h with ⟨h,gx,_⟩|⟨b,cap,cur,a8,h1,aa,aq,a6,bT,ed⟩
 · subst gx; exact h▸ak.nil
 · refine ⟨_,cap,h1,aq,a6,.inr ⟨b,0,rfl,by unfold aR; omega,fun i u hu=>?_⟩⟩;rw [←ed,List.getElem?_take] at hu;split at hu
   · rw [cell_of_row w b (0+i) cur e (0,0) aa];simpa using hu
   · cases hu
theorem Acc.fresh {B:Nat} (h:Acc enc e sz w g v l) (aO:g=0∨B < g):ak enc w (aR B w.heap.size) v l:=by
 have a':=h.lt;rcases aO with a8|a8
 · rcases h with ⟨h,gx,_⟩|⟨b,_,_,h1,_⟩
   · subst gx; exact h▸ak.nil
   · omega
 · exact h.bl.b0 (by omega) a'
theorem Acc.append {P:Program} (h:Acc enc e sz w g v l) {t ty:TypeId} {fv:Bool} {by_:Nat} {z:List Value} (aQ:P.underlying t=some (.slice e)) (he:dX P e=some (fv,sz,by_,z)) (b':z.length=sz)
 (dr:∀ x,(enc x).length=sz) (h1:∀ x,(enc x).all (·.oneCell')=true) {F:Nat→Prop} {v2:Value} {c5:List α} (aF:ak enc w F v2 c5) (vY:(l.length+c5.length)*by_≤140737488355328) (su:l.length+c5.length≤maxLen) :
 ∃ g_ e' ah,(Builtin.append_ #[t,t] ty #[v,v2]).run P w=.ok g_ ah∧Acc enc e sz ah e' g_ (l++c5)∧Mod (b5 g) w ah∧(e'=g∨w.heap.size < e'):=by
 obtain ⟨i,hG,js,p5,i2,i3,i4,i5,Cu,Ow⟩:=AI he
 have Fi:∀ u∈c5.flatMap enc,u.oneCell'=true:=fun u hu=>by
  obtain ⟨x,_,ad⟩:=List.mem_flatMap.1 hu
  exact List.all_eq_true.1 (h1 x) u ad
 have dG:(c5.flatMap enc).length=c5.length*i.size:=(by rw [ts dr,i4]);have pk:(l.flatMap enc).length=l.length*i.size:=(by rw [ts dr,i4]);have vX:js.cells.size=sz:=(by rw [←Array.length_toList,Cu,b']);have Ox:l.length+c5.length≤9223372036854775807:=su;-- XB XC cells
 obtain ⟨a2,xg,rfl,p6,ax,aF⟩:=aF;by_cases xh:c5=[]
 · -- nothing is XC
   subst xh;refine ⟨v,g,w,?_,by simpa using h,Mod.refl _ _,.inl rfl⟩
   have Oy:(Builtin.firstCells i.size 0 (.slice a2 0 xg)).run P w=.ok #[] w:=by
    cases a2<;>simp [Builtin.firstCells,loadCells,loadCellsFrom]
   rcases h with ⟨rfl,rfl,_⟩|⟨b,cap,cur,_,rfl,aO,AL,_⟩
   · simp [Builtin.append_,run_underlying aQ,sizeOf,typeInfo,p5,Builtin.lenOf,Oy]
   · simp [Builtin.append_,run_underlying aQ,sizeOf,typeInfo,p5,Builtin.lenOf,AL,Oy,storeCells]
 · obtain ⟨aN,nj,rfl,bO,c_⟩:∃ aN nj,a2=some (⟨aN,nj,none⟩:Addr)∧F aN∧Row w aN nj (c5.flatMap enc):=by
    rcases aF with h|⟨aN,nj,h1,aa,aq⟩
    · exact absurd h xh
    · exact ⟨aN,nj,h1,aa,aq⟩
   have Cv:∀ j u,(c5.flatMap enc)[j]?=some u→w.cell? ((⟨aN,nj,none⟩:Addr).add j)=some u:=fun j u hu=>by
    rw [add_lit]; exact c_.cell j u hu
   have fresh:∀ (nk:Nat),nk < l.length+c5.length→∀ aZ:World,aZ=w.drew.alloc (.cells ((l.flatMap enc).toArray++(c5.flatMap enc).toArray++Builtin.zeroCells js.cells (grownCap w (l.length+c5.length) nk e-(l.length+c5.length))) e) →
    Acc enc e sz aZ (w.heap.size+1) (.slice (some ⟨w.heap.size,0,none⟩) (l.length+c5.length) (grownCap w (l.length+c5.length) nk e)) (l++c5)∧Mod (b5 g) w aZ:=by
    intro nk dJ aZ eL
    subst eL
    have xi:=grownCap_ge w (l.length+c5.length) nk e
    have xj:grownCap w (l.length+c5.length) nk e≤maxLen:=grownCap_le_maxLen w (l.length+c5.length) nk e su
    refine ⟨.inr ⟨_,_,_,rfl,by rw [List.length_append],heap_alloc_new w.drew _,by rw [List.length_append]; exact xi,xj,?_,?_⟩,?_⟩
    · simp only [Array.size_append,List.size_toArray,size_zeroCells,vX,pk,dG,i4,←Nat.add_mul]
      congr 1
      omega
    · simp only [Array.toList_append,List.flatMap_append]
      have fw:(l++c5).length*sz=((l.flatMap enc)++(c5.flatMap enc)).length:=by rw [List.length_append,List.length_append,pk,dG,i4,Nat.add_mul]
      rw [fw]
      exact List.take_left
    · exact (Mod.drew _ w).trans (Mod.alloc _ _ _)
   rcases h with ⟨rfl,rfl,rfl⟩|⟨b,cap,cur,rfl,rfl,aO,AL,xj,ic,Oz⟩
   · by_cases a8:c5.length=0
     · have:c5=[]:=List.eq_nil_of_length_eq_zero a8
       subst this;refine ⟨.slice none 0 0,0,w,?_,Acc.nil,Mod.refl _ _,.inl rfl⟩;simp [Builtin.append_,run_underlying aQ,sizeOf,typeInfo,p5,Builtin.lenOf,Builtin.firstCells,loadCells,loadCellsFrom]
     · have xk:c5.length*i.bytes≤281474976710656:=by
        have U:=vY; simp only [List.length_nil,Nat.zero_add] at U; rw [i5]; omega
       have aB:=run_append_nil (P:=P) w t ty e i js aQ p5 i3 ⟨aN,nj,none⟩ c5.length xg (c5.flatMap enc) dG Cv (by omega) (by have:=Ox; simp only [List.length_nil,Nat.zero_add] at this; omega) xk;have bd:=fresh 0 (by simp; omega) _ rfl;simp only [List.length_nil,Nat.zero_add,List.flatMap_nil,List.nil_append,Array.empty_append] at bd;exact ⟨_,_,_,aB,bd.1,bd.2,.inr (Nat.lt_succ_self _)⟩
   · by_cases AM:l.length+c5.length≤cap
     · have XD:l.length*i.size+(c5.flatMap enc).length≤cur.size:=(by rw [dG,ic,i4,←Nat.add_mul]; exact Nat.mul_le_mul_right _ AM);have aB:=run_append_room (P:=P) w t ty e i aQ p5 b l.length cap cur aO ⟨aN,nj,none⟩ c5.length xg (c5.flatMap enc) dG Cv Fi AM XD;refine ⟨_,b+1,_,aB,.inr ⟨b,cap,_,rfl,by rw [List.length_append],setRow_heap w b cur _ e _ aO,by rw [List.length_append]; exact AM,xj,?_,?_⟩,(Fh _ _ _).weaken (fun i al _=>by unfold b5; omega),.inl rfl⟩
       · simp only [List.size_toArray,List.length_append,List.length_take,List.length_drop,Array.length_toList];omega
       · rw [i4,Oz,List.flatMap_append];have fw:(l++c5).length*sz=((l.flatMap enc)++(c5.flatMap enc)).length:=(by rw [List.length_append,List.length_append,pk,dG,i4,Nat.add_mul]);rw [fw];exact List.take_left
     · have holds:∀ j u,(l.flatMap enc)[j]?=some u→w.cell? ((⟨b,0,none⟩:Addr).add j)=some u:=fun j u hu=>by
        rw [add_lit,cell_of_row w b (0+j) cur e (0,0) aO]
        rw [←Oz,List.getElem?_take] at hu
        split at hu
        · simpa using hu
        · cases hu
       have aB:=run_append_grow (P:=P) w t ty e i js aQ p5 i3 ⟨b,0,none⟩ l.length cap (l.flatMap enc) pk holds ⟨aN,nj,none⟩ c5.length xg (c5.flatMap enc) dG Cv (by omega) (by omega) (by rw [i5]; exact growslice_fits (by omega) vY);have bd:=fresh cap (by omega) _ rfl;exact ⟨_,_,_,aB,bd.1,bd.2,.inr (Nat.lt_succ_self _)⟩
theorem gl.append {P:Program} {E:Env} {d:Option Tmp} {ty:TypeId} {pos:String} {af:Array Edge} {gd:Option (Nat×Bool)} {K:Value→World→Prop} {t:TypeId} {x y:Operand} {fv:Bool} {by_:Nat} {z:List Value} {F:Nat→Prop} {v2:Value} {c5:List α}
 (h:Acc enc e sz w g v l) (aQ:P.underlying t=some (.slice e)) (he:dX P e=some (fv,sz,by_,z)) (b':z.length=sz)
 (dr:∀ x,(enc x).length=sz) (h1:∀ x,(enc x).all (·.oneCell')=true) (ad:aC E x=some v) (av:aC E y=some v2) (aF:ak enc w F v2 c5) (vY:(l.length+c5.length)*by_≤140737488355328) (su:l.length+c5.length≤maxLen)
 (eC:∀ g_ e' ah,Acc enc e sz ah e' g_ (l++c5)→Mod (b5 g) w ah→(e'=g∨w.heap.size < e')→w.heap.size≤ah.heap.size→K g_ ah) :
 gl P ⟨d,.call { callee:=.builtin .append,args:=#[x,y],argTypes:=#[t,t] },ty,pos,af,gd⟩ E w K:=fun a ao=>by
 obtain ⟨g_,e',ah,aB,aa,aq,a6⟩:=h.append (ty:=ty) aQ he b' dr h1 aF vY su
 simp only [execOp,resolve,invoke,builtin,Sem.run_bind,Sem.run_pure,Result.andThen_ok,List.map_toArray,List.map_cons,List.map_nil,ao.aC ad,ao.aC av,aB,out]
 exact eC _ _ _ aa aq a6 aq.size
end
theorem ak.eP {α:Type} {enc:α→List Value} {w:World} {b:Nat} {e:TypeId} {cs:List Value} (h:ez w b cs e) (l:List α) (n:Nat) (an:cs=l.flatMap enc) (aI:l.length=n) (hm:n≤maxLen):ak enc w (aR b (b+1)) (.slice (some ⟨b,0,none⟩) n n) l:=by
 subst aI;exact ⟨_,l.length,rfl,Nat.le_refl _,hm,.inr ⟨b,0,rfl,by unfold aR; omega,by rw [←an]; exact h.row⟩⟩
theorem Acc.eP {α:Type} {enc:α→List Value} {w:World} {b:Nat} {e:TypeId} {sz:Nat} {cs:List Value} (h:ez w b cs e) (l:List α) (n:Nat) (an:cs=l.flatMap enc) (dr:∀ x,(enc x).length=sz) (aI:l.length=n) (hm:n≤maxLen):Acc enc e sz w (b+1) (.slice (some ⟨b,0,none⟩) n n) l:=by
 subst aI;have a':=ts dr l;refine .inr ⟨b,l.length,cs.toArray,rfl,rfl,h,Nat.le_refl _,hm,by rw [an]; simpa using a',?_⟩;rw [an,←a'];exact List.take_length
def dec (s:ag):Nat×Nat:=Utf8.decode ⟨s.toArray⟩ 0
theorem OA (s:ag) (n:Nat):Utf8.decode ⟨s.toArray⟩ n=dec (s.drop n):=by
 have h:=Lib.tail_decode ⟨s.toArray⟩ n 0
 have e:(⟨s.toArray⟩:ByteArray).extract n (⟨s.toArray⟩:ByteArray).size=⟨(s.drop n).toArray⟩:=by
  rw [I5]
  have:(⟨s.toArray⟩:ByteArray).size=s.length:=by simp [ByteArray.size]
  rw [this,List.take_length]
 rw [e] at h;simpa [dec] using h.symm
theorem xl (s:ag) (h:s≠[]):1≤(dec s).2:=by
 refine Lib.decode_width_pos _ _ ?_
 cases s with
 | nil=>exact absurd rfl h
 | cons a s=>simp [ByteArray.size]
theorem AN (s:ag) (h:s≠[]):(dec s).2≤s.length:=by
 have dr:(⟨s.toArray⟩:ByteArray).size=s.length:=by simp [ByteArray.size]
 cases s with
 | nil=>exact absurd rfl h
 | cons a s =>
  unfold dec Utf8.decode
  simp only [dr,List.length_cons]
  repeat' split
  all_goals simp_all
  all_goals omega
theorem OB (s:ag):(dec s).1≤1114111:=by
 unfold dec Utf8.decode Utf8.runeError;simp only;repeat' split
 all_goals simp_all [Utf8.valid]
 all_goals omega
def qO (w:World) (b:Nat) (s:ag) (pos:Nat):Prop:=w.heap[b]?=some (.stringIter ⟨s.toArray⟩ pos)
theorem qO.bt {w ah:World} {b g:Nat} {s:ag} {pos:Nat} (h:qO w b s pos) (hm:Mod (b5 g) w ah) (aO:b+1≠g):qO ah b s pos:=hm.keep _ _ h aO
theorem qO.ext {w ah:World} {b:Nat} {s:ag} {pos:Nat} (h:qO w b s pos) (hm:Ext w ah):qO ah b s pos:=hm.keep _ _ h (fun x=>x)
theorem qO.lt {w:World} {b:Nat} {s:ag} {pos:Nat} (h:qO w b s pos):b < w.heap.size:=(Array.getElem?_eq_some_iff.1 h).1
section
variable {P:Program} {E:Env} {d:Option Tmp} {ty:TypeId} {pos:String} {af:Array Edge} {gd:Option (Nat×Bool)} {w:World} {K:Value→World→Prop}
theorem gl.I8 {t:TypeId} {x:Operand} {s:ag} (aQ:P.underlying t=some .string) (ad:aC E x=some (aH s))
 (eC:∀ ah b,Ext w ah→b=w.heap.size→ah.heap.size=w.heap.size+1→qO ah b s 0→K (ptr b 0) ah):gl P ⟨d,.range t x,ty,pos,af,gd⟩ E w K:=fun a ao=>by
 have h:=eC (w.alloc (.stringIter ⟨s.toArray⟩ 0)) w.heap.size (Mod.alloc _ _ _) rfl (by simp) (by
  show (w.heap.push _)[w.heap.size]?=_
  simp)
 simp [execOp,ao.aC ad,Instr.range,aH,run_underlying aQ,out]
 exact h
theorem gl.hY {x:Operand} {s:ag} {b i:Nat} (ad:aC E x=some (ptr b 0)) (al:qO w b s i) (XE:s.drop i=[]→K (.tuple #[.bool false]) w)
 (eC:∀ ah,s.drop i≠[]→Mod (b5 (b+1)) w ah→ah.heap.size=w.heap.size→qO ah b s (i+(dec (s.drop i)).2)→K (.tuple #[.bool true,.int .i64 i,.int .i32 ((dec (s.drop i)).1:Int)]) ah) :
 gl P ⟨d,.next x true,ty,pos,af,gd⟩ E w K:=fun a ao=>by
 have aq:(⟨s.toArray⟩:ByteArray).size=s.length:=by simp [ByteArray.size]
 by_cases a':i < s.length
 · have cA:s.drop i≠[]:=fun e=>by have:=congrArg List.length e; simp at this; omega
   have h:=eC { w with heap:=w.heap.setIfInBounds b (.stringIter ⟨s.toArray⟩ (i+(dec (s.drop i)).2)) } cA
    ⟨rfl,rfl,rfl,by simp,fun k o hk aI=>by
     have:b≠k:=fun e=>aI (by unfold b5; omega)
     show (w.heap.setIfInBounds b _)[k]?=_
     rw [Array.getElem?_setIfInBounds_ne this]; exact hk⟩ (by simp) (by
     show (w.heap.setIfInBounds b _)[b]?=_
     have U:=al.lt
     simp [U])
   have aO:w.heap[b]?=some (.stringIter ⟨s.toArray⟩ i):=al
   simp [execOp,ao.aC ad,ptr,Instr.next,getObj,setObj,Sem.run,aO,aq,a',OA,goInt,out]
   exact h
 · have he:s.drop i=[]:=List.drop_of_length_le (by omega)
   have aO:w.heap[b]?=some (.stringIter ⟨s.toArray⟩ i):=al
   simp [execOp,ao.aC ad,ptr,Instr.next,getObj,Sem.run,aO,aq,a',out]
   exact XE he
end
end Go.aA
namespace Go.aA
open Go
section
variable {P:Program} {f:FuncId} {R:Ending→World→Prop} {n:Nat}
def Cw:Nat→List Value→Env
 | _,[]=>[]
 | i,v::r=>(i,v)::Cw (i+1) r
theorem OC:∀ (vs:List Value) (j i:Nat) (v:Value),mv i (Cw j vs)=some v→j≤i∧vs[i-j]?=some v
 | [],_,_,_,h=>by simp [Cw,mv] at h
 | u::r,j,i,v,h=>by
  simp only [Cw,mv] at h
  cases U:Nat.beq i j with
  | true =>
   have:=Nat.eq_of_beq_eq_true U
   simp only [U,Option.some.injEq] at h
   subst this
   simp [h]
  | false =>
   simp only [U] at h
   obtain ⟨h1,aa⟩:=OC r (j+1) i v h
   refine ⟨by omega,?_⟩
   have:i-j=(i-(j+1))+1:=by omega
   rw [this]
   simpa using aa
theorem bS {fn:Func} {c:Code} {vs:List Value} {w:World} (bd:P.funcs[f]?=some fn) (U:fn.body=some c) (aI:fn.ntmps=n) (hle:Nat.ble vs.length n=true)
 (h:gQ P f R n (Cw 0 vs) [.code c] w):Calls P f vs.toArray w R:=
 W5 bd U (h _ ⟨by have:=Nat.le_of_ble_eq_true hle; simp [aI]; omega,rfl,fun i v bG=>by
  obtain ⟨_,aa⟩:=OC vs 0 i v bG
  simp only [Nat.sub_zero] at aa
  have gE:=(List.getElem?_eq_some_iff.1 aa).1
  simp only [Array.getD_eq_getD_getElem?]
  rw [Array.getElem?_append_left (by simpa using gE)]
  simp [aa]⟩)
theorem e4.fS {ops:Array Oper} {o:Oper} {l:List Oper} {E:Env} {k:List Item} {w:World} {lJ:Bool} (dL:aY P o E (fun ah=>ah=w) (.bool lJ))
 (hw:want n ops E o.guard=some true) (hd:iU n o.dst=true) (h:∀ b:Bool,b=lJ→e4 P f R n ops l (pu o.dst (.bool b) E) k w):e4 P f R n ops (o::l) E k w:=
 e4.q dL hw hd (h lJ rfl)
theorem gG.fS {C:World→Prop} {A:Nat→Bool} {Z:Nat} {ops:Array Oper} {o:Oper} {i:Nat} {l:List Nat} {E:Env} {k:List Item} {w:World} {lJ:Bool} (dJ:ops[i]?=some o) (bg:A i=false) (dL:aY P o E C (.bool lJ))
 (hw:want n ops E o.guard=some true) (hd:iU n o.dst=true) (h:∀ b:Bool,b=lJ→gG P f R n C A Z ops l (pu o.dst (.bool b) E) k w):gG P f R n C A Z ops (i::l) E k w:=
 gG.q dJ bg dL hw hd (h lJ rfl)
theorem fx (A:Nat→Bool) (Z:Nat) (C:World→Prop) {id:Nat} {ops:Array Oper} {E:Env} {k:List Item} {w:World} (hm:P.follows .mixedOrders=true) (eK:yT ops A Z=true)
 (h:∀ ai,Ext w ai→C ai∧gG P f R n C A Z ops (List.range' 0 ops.size) E k ai):gQ P f R n E (.code (.region id ops true)::k) w:=
 Xl A Z C hm eK (h w.drew (Mod.drew _ _))
end
section
variable {P:Program} {E:Env} {d:Option Tmp} {ty:TypeId} {pos:String} {af:Array Edge} {gd:Option (Nat×Bool)} {w:World} {K:Value→World→Prop}
theorem gl.aE {g:FuncId} {xs:List Operand} {lI:Array TypeId} {vs:List Value} {uS:Value→World→Prop} (aO:bX P g=true)
 (ad:pj E xs=some vs) (h:Calls P g vs.toArray w (aj uS)) (eC:∀ v ah,uS v ah→K v ah) :
 gl P ⟨d,.call { callee:=.value (.func g),args:=xs.toArray,argTypes:=lI },ty,pos,af,gd⟩ E w K:=
 gl.call (first:=[]) (cap:=[]) aO rfl ad (by simpa using h) eC
theorem gl.XF {g : FuncId} {fn : Func} {e : Array Value → Sem Value} {xs : List Operand} {lI : Array TypeId} {vs : List Value} {v : Value} (bd : P.funcs[g]? = some fn) (XG : (fn.name == "runtime.NumGoroutine") = false)
 (U:fn.body.isNone=true) (aI:Extern.findNext fn=none) (he:Extern.find fn=some e) (ad:pj E xs=some vs) (aB:(e vs.toArray).run P w=.ok v w) (eC:K v w) :
 gl P ⟨d,.call { callee:=.value (.func g),args:=xs.toArray,argTypes:=lI },ty,pos,af,gd⟩ E w K:=fun a ao=>by
 have Ct:xs.toArray.map a.eval=vs.toArray:=by
  apply Array.ext'
  simpa using ao.pj ad
 have:(execOp a.eval ⟨d,.call { callee:=.value (.func g),args:=xs.toArray,argTypes:=lI },ty,pos,af,gd⟩).run P w=.ok (.value v) w:=by
  have XH:a.eval (.func g)=.func (.func g) #[] #[]:=rfl
  simp only [execOp,resolve,XH,Ct,Deferred.ofValue,Sem.run_bind,Sem.run_pure,Result.andThen_ok,invoke,Array.append_empty,Array.empty_append]
  rw [run_callFunc_extern bd XG U aI he,aB]
  rfl
 rw [this]
 exact eC
end
theorem ak.ft {α:Type} {enc:α→List Value} {w:World} {cn up:Nat} {v:Value} {l:List α} (h:ak enc w (aR cn up) v l) {P:Program} {t e:TypeId} {sz by_:Nat} {g:Bool} {z:List Value} (aQ:P.underlying t=some (.slice e)) (he:dX P e=some (g,sz,by_,z)) (dr:∀ x,(enc x).length=sz) {k:IntKind} {n:Int} (i:Nat) (aI:n=(i:Int)) (al:i < l.length) :
 ∃ x b off,l[i]?=some x∧(∀ w,(Instr.indexAt t v (.int k n)).run P w=.ok (ptr b off) w)∧cn≤b∧b < up∧Row w b off (enc x):=by
 obtain ⟨b,off,h1,aa,aq⟩:=h.at aQ he dr (k:=k) i aI al;exact ⟨l[i],b,off,by simp,h1,aa.1,aa.2,aq⟩
theorem ak.cast {α:Type} {enc:α→List Value} {w:World} {F:Nat→Prop} {v:Value} {l kE:List α} (h:ak enc w F v l) (e:l=kE):ak enc w F v kE:=e▸h
def encI (n:Int):List Value:=[.int .i64 n]
def dR (b:UInt8):List Value:=[.int .u8 (b.toNat:Int)]
def ie (n:Int):List Value:=[.int .i32 n]
def cp (s:ag):List Value:=[aH s]
theorem fy (x:Int):(encI x).length=1:=rfl
theorem nP (x:UInt8):(dR x).length=1:=rfl
theorem nQ (x:Int):(ie x).length=1:=rfl
theorem hr (x:ag):(cp x).length=1:=rfl
theorem Cx (x:Int):(encI x).all (·.oneCell')=true:=rfl
theorem Cy (x:UInt8):(dR x).all (·.oneCell')=true:=rfl
theorem Cz (x:Int):(ie x).all (·.oneCell')=true:=rfl
theorem xm (x:ag):(cp x).all (·.oneCell')=true:=rfl
abbrev bp (n:Int):Prop:=-9223372036854775808≤n∧n≤9223372036854775807
theorem aj.mk {uS:Value→World→Prop} {v:Value} {w:World} (h:uS v w):aj uS (.returned v) w:=⟨v,rfl,h⟩
theorem Fj {α:Type} [BEq α] [LawfulBEq α] {a b:α} (h:true=!(a==b)):a≠b:=fun e=>by subst e; simp at h
theorem Fk {α:Type} [BEq α] [LawfulBEq α] {a b:α} (h:false=!(a==b)):a=b:=by
 cases U:a==b with
 | true=>exact eq_of_beq U
 | false=>rw [U] at h; cases h
end Go.aA
namespace Go.aA
open Go Go.WideShapes Go.ChangeShapes Go.RowKit
section
variable {H:Type} {enc:TypeId×Value→H} {P:Program} {W:World}
def yX (P:Program) (t:TypeId) {α:Type} (vZ:α→List Value) (ok:α→Prop):Prop:=
 ∀ {H:Type} {enc:TypeId×Value→H} {W:World} {base:Nat} {spare:Nat→Bool} {held:Bool} (fuel:Nat) (cs:List Value) (x:DataW H×List MemPlace),DataW.trod enc P W base spare held fuel t cs=some x→∃ a:α,cs=vZ a∧ok a
theorem wf_i64 {n:Int} (h:(Lit.int .i64 n).wf=true):bp n:=by
 simp [Lit.wf,IntKind.min,IntKind.max,IntKind.signed,IntKind.bits] at h;unfold bp; omega
theorem nm {t:TypeId} (h:P.underlying t=some (.int .i64)):yX P t encI bp:=fun fuel cs x aQ=>by
 obtain ⟨n,rfl,_,hw⟩:=DataW.trod_int h aQ
 exact ⟨n,rfl,wf_i64 hw⟩
theorem Fl {t:TypeId} (h:P.underlying t=some .string):yX P t cp (fun s=>s.length≤9223372036854775807):=fun fuel cs x aQ=>by
 obtain ⟨s,rfl,_,hw⟩:=DataW.trod_string h aQ
 exact ⟨s.data.toList,by rw [cp,←Xm],hw⟩
def I9 (b:Bool):List Value:=[.bool b]
theorem XI {t:TypeId} (h:P.underlying t=some .bool):yX P t I9 (fun _=>True):=fun fuel cs x aQ=>by
 obtain ⟨b,rfl,_⟩:=DataW.trod_bool h aQ
 exact ⟨b,rfl,trivial⟩
theorem Fm {t:TypeId} {j_:Array Field} (hu:P.underlying t=some (.struct j_)) {base:Nat} {spare:Nat→Bool} {held:Bool} {fuel:Nat} {cs:List Value} {x:DataW H×List MemPlace} (h:DataW.trod enc P W base spare held fuel t cs=some x) :
 ∃ n,cs.length=P.cellsOf t∧∀ (i:Nat) (f:Field) (Fo off k:Nat),j_[i]?=some f→f.type=Fo→f.offset=off→P.cellsOf Fo=k→∃ y,DataW.trod enc P W base spare held n Fo ((cs.drop off).take k)=some y:=by
 obtain ⟨xs,n,_,ad,a',hlen,bd⟩:=DataW.trod_struct hu h;refine ⟨n,a',fun i f Fo off k al fw jh uU=>?_⟩;subst fw jh uU;have gE:i < j_.size:=(Array.getElem?_eq_some_iff.1 al).1;exact ⟨xs[i]'(by omega),by rw [bd i f al]; simp⟩
theorem XJ {base:Nat} {a:Addr} {n:Nat} {cs:List Value} (h:W.cells? base a n=some cs) (aI:0 < n):∃ b off,a=⟨b,off,none⟩∧b < W.heap.size∧cs.length=n∧Row W b off cs:=by
 obtain ⟨_,eG,ou⟩:=World.cells?_some h;have a8:=ou 0 aI;have CA:cs[0]?=some (cs[0]'(by omega)):=List.getElem?_eq_getElem (by omega);rw [CA] at a8;have i7:a.add 0=a:=(by unfold Addr.add; simp);rw [i7] at a8
 have XK:a.spot=none:=by
  unfold World.cell? at a8
  cases fC:W.heap[a.block]? with
  | none=>rw [fC] at a8; cases a8
  | some I1 =>
   rw [fC] at a8
   cases I1<;>simp only [reduceCtorEq] at a8
   cases aF:a.spot with
   | none=>rfl
   | some _=>rw [aF] at a8; simp at a8
 obtain ⟨b,off,sp⟩:=a;subst XK;refine ⟨b,off,rfl,World.block_lt_of_cell? W _ a8,eG,fun i v bG=>?_⟩;have al:i < n:=(by rw [←eG]; exact (List.getElem?_eq_some_iff.1 bG).1);have:=ou i al;rw [add_lit,bG] at this;exact this
theorem I_ {t e : TypeId} {α : Type} {vZ : α → List Value} {ok : α → Prop} (bd : yX P e vZ ok) (aQ : P.underlying t = some (.slice e)) {sz : Nat} (hC : P.cellsOf e = sz) (a8 : 0 < sz) (dr : ∀ x, (vZ x).length = sz)
    {spare : Nat → Bool} {held : Bool} {fuel : Nat} {cs : List Value} {x : DataW H × List MemPlace} (h : DataW.trod enc P W 0 spare held fuel t cs = some x) :
    ∃ (v : Value) (l : List α), cs = [v] ∧ ak vZ W (aR 0 W.heap.size) v l ∧ ∀ a ∈ l, ok a := by
  rcases Deep.open_slice aQ h with ⟨rfl, _⟩ | ⟨a, len, cap, m, n, D, akf, rfl, _, hle, su, hm, _, al⟩
  · exact ⟨_, [], rfl, ak.nil, by simp⟩
  · have akg : len ≤ m := by rw [hm]; split <;> omega
    have key : ∀ i : Nat, i < len → ∃ y : α, ok y ∧ ∃ b off, a.add (i * sz) = ⟨b, off, none⟩ ∧ b < W.heap.size ∧ Row W b off (vZ y) := fun i pn => by
      obtain ⟨cs', an, XL⟩ := al i (by omega)
      rw [hC] at an
      obtain ⟨b, off, ao, U, eG, aB⟩ := XJ an a8
      obtain ⟨y, rfl, av⟩ := bd _ _ _ XL
      exact ⟨y, av, b, off, ao, U, aB⟩
    by_cases xh : len = 0
    · subst xh;exact ⟨_, [], rfl, ⟨some a, cap, rfl, Nat.zero_le _, su, .inl rfl⟩, by simp⟩
    · -- XB list
      have XM : ∃ l : List α, l.length = len ∧ ∀ i (al : i < l.length), ok l[i] ∧ ∃ b off, a.add (i * sz) = ⟨b, off, none⟩ ∧ b < W.heap.size ∧ Row W b off (vZ l[i]) := by
        have gen : ∀ n : Nat, n ≤ len → ∃ l : List α, l.length = n ∧ ∀ i (al : i < l.length), ok l[i] ∧ ∃ b off, a.add (i * sz) = ⟨b, off, none⟩ ∧ b < W.heap.size ∧ Row W b off (vZ l[i]) := by
         intro n aI
         induction n with
         | zero => exact ⟨[], rfl, fun i al => by simp at al⟩
         | succ k bq =>
          obtain ⟨l, a', fr⟩ := bq (by omega)
          obtain ⟨y, av, aB⟩ := key k (by omega)
          refine ⟨l ++ [y], by simp [a'], fun i al => ?_⟩
          rcases Nat.lt_or_ge i l.length with gx | gx
          · rw [List.getElem_append_left gx]; exact fr i gx
          · have : i = l.length := by simp at al; omega
            subst this
            rw [List.getElem_append_right (Nat.le_refl _)]
            simp only [Nat.sub_self, List.getElem_cons_zero, a']
            exact ⟨av, aB⟩
        exact gen len (Nat.le_refl _)
      obtain ⟨l, a', fr⟩ := XM;obtain ⟨_, b, off, ao, U, _⟩ := fr 0 (by omega);have XN : a = ⟨b, off, none⟩ :=(by rw [← ao]; unfold Addr.add; simp);subst XN;refine ⟨_, l, rfl, ⟨_, cap, by rw [a'], by omega, su, .inr ⟨b, off, rfl, ⟨Nat.zero_le _, U⟩, fun j v bG => ?_⟩⟩, fun y av => ?_⟩
      · have uR := ts dr l;have aS : j < l.length * sz :=(by rw [← uR]; exact (List.getElem?_eq_some_iff.1 bG).1);have hdiv : j / sz < l.length := Nat.div_lt_of_lt_mul (by rw [Nat.mul_comm]; exact aS);obtain ⟨_, rL, OD, I', xn, Ja⟩ := fr (j / sz) hdiv;rw [add_lit] at I';simp only [Addr.mk.injEq, and_true] at I';obtain ⟨rfl, rfl⟩ := I';have Fp := (Fg dr l (j / sz) hdiv).1;have XO : j % sz < sz := Nat.mod_lt _ a8;have OE : j / sz * sz + j % sz = j := Nat.div_add_mod' j sz
        have XP : (vZ l[j / sz])[j % sz]? = some v := by
          rw [← Fp, List.getElem?_take, if_pos XO, List.getElem?_drop, OE]; exact bG
        have := Ja (j % sz) v XP;rw [Nat.add_assoc, OE] at this;exact this
      · obtain ⟨i, tt, rfl⟩ := List.getElem_of_mem av;exact (fr i tt).1
def Fq (P:Program) (lI:List TypeId):Bool:=lI.all fun t=>P.readableRec t && decide (t < P.types.size)
theorem OF (a':laidOutB P=true) {yY:World} (yZ:Ext W yY):∀ (lI:List TypeId) (vs:List Value) (p4:List (DataW H)) (gm:List MemPlace),Fq P lI=true →
 DataW.TrodAll enc P W 0 (fun _=>true) true lI vs p4 gm→DataW.TrodAll enc P yY 0 (fun b=>decide (b < W.heap.size)) true lI vs p4 gm
 | [],[],[],_,_,h=>h
 | t::lI,v::vs,d::p4,gm,aB,h=>by
  obtain ⟨p,q,h1,aa,aq⟩:=h
  simp only [Fq,List.all_cons,Bool.and_eq_true,decide_eq_true_eq] at aB
  have gE:∀ x∈p,x.block < W.heap.size:=by
   obtain ⟨fuel,bd⟩:=h1
   exact fun x ad=>DataW.trod_lt _ _ _ _ bd x ad
  exact ⟨p,q,Below.trod a' aB.1.1 aB.1.2 h1 yZ.below gE,OF a' yZ lI vs p4 q (by simpa [Fq] using aB.2) aa,aq⟩
 | [],_::_,_,_,_,h=>h.elim
 | [],[],_::_,_,_,h=>h.elim
 | _::_,[],_,_,_,h=>h.elim
 | _::_,_::_,[],_,_,h=>h.elim
theorem XQ {f:Func} {s:ChangeSpec} {args:Array Value} {p4 gs:List (DataW H)} {before:List MemPlace} {yY:World} {tb:TypeId} (a':laidOutB P=true) (aB:Fq P f.params.toList=true)
 (oT:f.resultTypes=#[tb]) (U:P.underlying tb=some .bool) (OG:s.vars=[]) (po:DataW.Whole enc P f.params.toList s.vars false W args.toList p4 gs before) (yZ:Ext W yY)
 (Jb:s.fn H (p4++gs)={ results:=[.lit (.bool true)],args:=p4 }):ChangeSpec.post enc P f s false true false false W args (.bool true) yY:=by
 have Jc:=po;obtain ⟨p,q,bg,y0,rfl,XR,kr⟩:=po
 have dL:gs=[]∧q=[]:=by
  rw [OG] at y0
  cases gs with
  | nil=>exact ⟨rfl,y0⟩
  | cons _ _=>exact y0.elim
 obtain ⟨rfl,rfl⟩:=dL;refine ⟨p4,[],p++[],[],p,[],Jc,?_,?_,?_,yZ.below.frame _,fun h=>by cases h⟩
 · rw [Jb,oT];exact trodAll_cons_mk (shut_bool U true) trodAll_mk0
 · rw [Jb];exact OF a' yZ _ _ _ _ aB bg
 · rw [OG,Jb];rfl
end
end Go.aA
namespace Go.ab
open Go.aA
def AO:Nat→ag→List Nat
 | 0,_=>[]
 | n+1,s=>match s with
  | []=>[]
  | a::r=>(dec (a::r)).1::AO n ((a::r).drop (dec (a::r)).2)
def gj (s:ag):List Nat:=AO s.length s
theorem OH:∀ (n m:Nat) (s:ag),s.length≤n→s.length≤m→AO n s=AO m s
 | 0,0,_,_,_=>rfl
 | 0,m+1,s,h,_=>by
  have:s=[]:=List.eq_nil_of_length_eq_zero (by omega)
  subst this; rfl
 | n+1,0,s,_,h=>by
  have:s=[]:=List.eq_nil_of_length_eq_zero (by omega)
  subst this; rfl
 | n+1,m+1,[],_,_=>rfl
 | n+1,m+1,a::r,h1,aa=>by
  simp only [AO]
  have hp:=xl (a::r) (by simp)
  rw [OH n m _ (by simp only [List.length_drop,List.length_cons] at *; omega) (by simp only [List.length_drop,List.length_cons] at *; omega)]
theorem v7:gj []=[]:=rfl
theorem v8 {s:ag} (h:s≠[]):gj s=(dec s).1::gj (s.drop (dec s).2):=by
 cases s with
 | nil=>exact absurd rfl h
 | cons a r =>
  have hp:=xl (a::r) (by simp)
  show (dec (a::r)).1::AO r.length ((a::r).drop (dec (a::r)).2)=_
  rw [OH r.length ((a::r).drop (dec (a::r)).2).length _ (by simp only [List.length_drop,List.length_cons]; omega) (Nat.le_refl _)]
  rfl
theorem OI (s:ag):(gj s).length≤s.length:=by
 have:∀ n (s:ag),s.length≤n→(gj s).length≤s.length:=by
  intro n
  induction n with
  | zero=>intro s h; have:s=[]:=List.eq_nil_of_length_eq_zero (by omega); subst this; simp [v7]
  | succ n bq =>
   intro s h
   by_cases aF:s=[]
   · subst aF; simp [v7]
   · rw [v8 aF]
     have hp:=xl s aF
     have a':=AN s aF
     have:=bq (s.drop (dec s).2) (by rw [List.length_drop]; omega)
     rw [List.length_drop] at this
     rw [List.length_cons]; omega
 exact this _ s (Nat.le_refl _)
structure Scan (s:ag) (p:Nat) (pre:List Nat):Prop where
 all:gj s=pre++gj (s.drop p)
 le:p≤s.length
 len:pre.length≤p
theorem Scan.start (s:ag):Scan s 0 []:=⟨by simp,Nat.zero_le _,by simp⟩
theorem Scan.next {s:ag} {p:Nat} {pre:List Nat} (h:Scan s p pre) (he:s.drop p≠[]):Scan s (p+(dec (s.drop p)).2) (pre++[(dec (s.drop p)).1]):=by
 have a':=AN _ he;have hp:=xl _ he;rw [List.length_drop] at a';have:=h.le
 have gE:p < s.length:=by
  rcases Nat.lt_or_ge p s.length with h|h
  · exact h
  · exact absurd (List.drop_of_length_le h) he
 refine ⟨?_,by omega,by have:=h.len; simp; omega⟩;rw [h.all,v8 he,List.drop_drop];simp
theorem Scan.done {s:ag} {p:Nat} {pre:List Nat} (h:Scan s p pre) (he:s.drop p=[]):gj s=pre:=by
 rw [h.all,he,v7,List.append_nil]
theorem Scan.mem {s:ag} {p:Nat} {pre:List Nat} (h:Scan s p pre) (he:s.drop p≠[]):(dec (s.drop p)).1∈gj s:=by
 rw [h.all,v8 he]; simp
def hQ (s:ag):Int:=if 65533∈gj s then -1 else ((gj s).length:Int)
def word (s:ag):Bool:=decide (hQ s≥1) && decide (hQ s≤12)
def asked (s:ag):Bool:=decide (hQ s≥0) && decide (hQ s≤16)
structure rM (s:ag) (p k:Nat):Prop where
 ex:∃ pre,Scan s p pre∧pre.length=k∧65533∉pre
 le:p≤s.length
 v_:k≤p
theorem rM.start (s:ag):rM s 0 0:=⟨⟨[],Scan.start s,rfl,by simp⟩,Nat.zero_le _,Nat.le_refl _⟩
theorem rM.uV {s:ag} {p k:Nat} (h:rM s p k) (he:s.drop p≠[]) (hd:((dec (s.drop p)).1:Int)=65533):(-1:Int)=hQ s:=by
 obtain ⟨pre,h1,aa,aq⟩:=h.ex;have hm:=h1.mem he;have:(dec (s.drop p)).1=65533:=by omega
 rw [this] at hm;simp [hQ,hm]
theorem rM.next {s:ag} {p k:Nat} (h:rM s p k) (he:s.drop p≠[]) (hd:((dec (s.drop p)).1:Int)≠65533):rM s (p+(dec (s.drop p)).2) (k+1):=by
 obtain ⟨pre,h1,aa,aq⟩:=h.ex;have aI:=h1.next he;refine ⟨⟨_,aI,by simp [aa],?_⟩,aI.le,by have:=aI.len; simp [aa] at this; exact this⟩;simp only [List.mem_append,List.mem_singleton,not_or];exact ⟨aq,fun e=>hd (by omega)⟩
theorem rM.fin {s:ag} {p k:Nat} (h:rM s p k) (he:s.drop p=[]):((k:Nat):Int)=hQ s:=by
 obtain ⟨pre,h1,aa,aq⟩:=h.ex;have:=h1.done he;simp [hQ,this,aq,aa]
theorem rM.lt {s:ag} {p k:Nat} (h:rM s p k) (he:s.drop p≠[]):k < s.length:=by
 have:=h.v_
 have:p < s.length:=by
  rcases Nat.lt_or_ge p s.length with h|h
  · exact h
  · exact absurd (List.drop_of_length_le h) he
 omega
theorem XS (s:ag):-1≤hQ s:=by unfold hQ; split<;>omega
theorem OJ (s:ag):hQ s≤s.length:=by
 unfold hQ; have:=OI s; split<;>omega
def rising:List ag→Bool
 | []=>true
 | [_]=>true
 | a::b::r=>decide (Lib.compareBytes a b < 0) && rising (b::r)
def eD (l:List ag):Int:=if l.length > 60 then 3 else if l.all word=true then (if rising l=true then 0 else 7) else 6
def uW (l:List ag):Prop:=∀ s∈l,s.length≤9223372036854775807
theorem uW.at {l:List ag} (h:uW l) {k:Nat} {x:ag} (ad:l[k]?=some x):x.length≤9223372036854775807:=h x (List.mem_of_getElem? ad)
theorem y1 {α:Type} {p:α→Bool} {l:List α} {k:Nat} {x:α} (h:(l.take k).all p=true) (ad:l[k]?=some x) (hp:p x=true):(l.take (k+1)).all p=true:=by
 rw [List.take_add_one,ad]; simp_all
theorem Fs {α:Type} {p:α→Bool} {l:List α} {k:Nat} (h:(l.take k).all p=true) (hk:l.length≤k):l.all p=true:=by
 rwa [List.take_of_length_le hk] at h
theorem Jd {α:Type} {p:α→Bool} {l:List α} {k:Nat} {x:α} (ad:l[k]?=some x) (hp:p x=false):l.all p=false:=by
 rw [List.all_eq_false]; exact ⟨x,List.mem_of_getElem? ad,by simp [hp]⟩
theorem OK:∀ {l:List ag} {k:Nat} {x y:ag},rising (l.take (k+1))=true→l[k]?=some x→l[k+1]?=some y→Lib.compareBytes x y < 0→rising (l.take (k+2))=true
 | [],k,x,y,_,ad,_,_=>by simp at ad
 | a::l,0,x,y,h,ad,av,an=>by
  cases l with
  | nil=>simp at av
  | cons b l =>
   simp only [List.getElem?_cons_zero,Option.some.injEq] at ad
   simp only [Nat.zero_add,List.getElem?_cons_succ,List.getElem?_cons_zero,Option.some.injEq] at av
   subst ad; subst av
   simp [rising,an]
 | a::l,k+1,x,y,h,ad,av,an=>by
  cases l with
  | nil=>simp at ad
  | cons b l =>
   simp only [List.take_succ_cons,rising,Bool.and_eq_true,decide_eq_true_eq] at h ⊢
   refine ⟨h.1,?_⟩
   have:=OK (l:=b::l) (k:=k) (x:=x) (y:=y) (by simpa using h.2) (by simpa using ad) (by simpa using av) an
   simpa using this
theorem OL:∀ {l:List ag} {k:Nat} {x y:ag},l[k]?=some x→l[k+1]?=some y→¬ Lib.compareBytes x y < 0→rising l=false
 | [],k,x,y,ad,_,_=>by simp at ad
 | a::l,0,x,y,ad,av,an=>by
  cases l with
  | nil=>simp at av
  | cons b l =>
   simp only [List.getElem?_cons_zero,Option.some.injEq] at ad
   simp only [Nat.zero_add,List.getElem?_cons_succ,List.getElem?_cons_zero,Option.some.injEq] at av
   subst ad; subst av
   simp [rising,an]
 | a::l,k+1,x,y,ad,av,an=>by
  cases l with
  | nil=>simp at ad
  | cons b l =>
   have:=OL (l:=b::l) (k:=k) (x:=x) (y:=y) (by simpa using ad) (by simpa using av) an
   simp [rising,this]
theorem OM (l:List ag):rising (l.take 1)=true:=by
 cases l<;>rfl
theorem ON {l:List ag} {k:Nat} {x:ag} (AP:¬ (((l.length:Nat):Int) > 60)) (ad:l[k]?=some x) (hw:word x=false):(6:Int)=eD l:=by
 unfold eD; rw [if_neg (by omega),if_neg (by rw [Jd ad hw]; simp)]
theorem XT {l:List ag} {k:Nat} {x y:ag} (AP:¬ (((l.length:Nat):Int) > 60)) (ao:l.all word=true) (ad:l[k]?=some x) (av:l[k+1]?=some y) (an:¬ Lib.compareBytes x y < 0):(7:Int)=eD l:=by
 unfold eD; rw [if_neg (by omega),if_pos ao,if_neg (by rw [OL ad av an]; simp)]
theorem OO {l:List ag} {k:Nat} (AP:¬ (((l.length:Nat):Int) > 60)) (ao:l.all word=true) (h:rising (l.take k)=true) (hk:l.length≤k):(0:Int)=eD l:=by
 rw [List.take_of_length_le hk] at h;unfold eD; rw [if_neg (by omega),if_pos ao,if_pos h]
theorem dec_lt {s:ag} {p:Nat} (h:s.drop p≠[]):1≤(dec (s.drop p)).2∧p+(dec (s.drop p)).2≤s.length:=by
 have h1:=xl _ h;have aa:=AN _ h;rw [List.length_drop] at aa
 have:p < s.length:=by
  rcases Nat.lt_or_ge p s.length with gx|gx
  · exact gx
  · exact absurd (List.drop_of_length_le gx) h
 omega
theorem Ft {s:ag} (h:s.length≤9223372036854775807):bp (hQ s):=by
 have h1:=XS s; have aa:=OJ s; unfold bp; omega
theorem OP:∀ (a b:ag),-1≤Lib.compareBytes a b∧Lib.compareBytes a b≤1
 | [],[]=>by simp [Lib.compareBytes]
 | [],_::_=>by simp [Lib.compareBytes]
 | _::_,[]=>by simp [Lib.compareBytes]
 | a::x,b::y=>by
  unfold Lib.compareBytes
  split
  · omega
  · split
    · omega
    · exact OP x y
theorem tu (a b:ag):bp (Lib.compareBytes a b):=by have:=OP a b; unfold bp; omega
theorem OQ {l:List ag} {j:Nat} {x y:ag} (h:rising (l.take j)=true) (aS:1≤j) (ad:l[j-1]?=some x) (av:l[j]?=some y) (an:Lib.compareBytes x y < 0):rising (l.take (j+1))=true:=by
 obtain ⟨k,rfl⟩:∃ k,j=k+1:=⟨j-1,by omega⟩;exact OK h (by simpa using ad) av an
theorem OR {l:List ag} (h:((l.length:Nat):Int) > 60):(3:Int)=eD l:=by
 unfold eD; rw [if_pos (by omega)]
theorem OS {l:List ag} {j:Nat} {x y:ag} (AP:¬ (((l.length:Nat):Int) > 60)) (ao:l.all word=true) (aS:1≤j) (ad:l[j-1]?=some x) (av:l[j]?=some y) (an:¬ Lib.compareBytes x y < 0):(7:Int)=eD l:=by
 obtain ⟨k,rfl⟩:∃ k,j=k+1:=⟨j-1,by omega⟩;exact XT AP ao (by simpa using ad) av an
theorem uX (l:List ag):0≤eD l∧eD l≤7:=by
 unfold eD;repeat' split
 all_goals omega
def within (x least CB:Int):Bool:=decide (x≥least) && decide (x≤CB)
structure Key where
 len:Int
 text:ag
 deriving DecidableEq,Repr
def g' (k:Key):List Value:=[.int .i64 k.len,aH k.text]
theorem sv (x:Key):(g' x).length=2:=rfl
structure b1 where
 words:List ag
 cuts:List Key
 workers:Int
 db:Int
 dA:Int
 batch:Int
 dB:Int
 dC:Int
 first:Int
 cap:Int
 dD:Int
 dE:Int
 deriving DecidableEq
structure b1.Ok (c:b1):Prop where
 workers:bp c.workers
 db:bp c.db
 dA:bp c.dA
 batch:bp c.batch
 dB:bp c.dB
 dC:bp c.dC
 first:bp c.first
 cap:bp c.cap
 dD:bp c.dD
 dE:bp c.dE
 words:uW c.words
 cuts:∀ k∈c.cuts,bp k.len∧k.text.length≤9223372036854775807
def nR (x y:Int):Int:=if x < y then -1 else if x > y then 1 else 0
def mL:List Int→Int
 | []=>0
 | x::r=>if x≠0 then x else mL r
theorem XU {l:List Int} {k:Nat} {x:Int} (h:mL l=mL (l.drop k)) (ad:l[k]?=some x) (a8:x=0):mL l=mL (l.drop (k+1)):=by
 have hk:k < l.length:=(List.getElem?_eq_some_iff.1 ad).1;have e:l[k]=x:=(List.getElem?_eq_some_iff.1 ad).2;rw [h,List.drop_eq_getElem_cons hk,e];simp [mL,a8]
theorem OT {l:List Int} {k:Nat} {x:Int} (h:mL l=mL (l.drop k)) (ad:l[k]?=some x) (a8:x≠0):x=mL l:=by
 have hk:k < l.length:=(List.getElem?_eq_some_iff.1 ad).1;have e:l[k]=x:=(List.getElem?_eq_some_iff.1 ad).2;rw [h,List.drop_eq_getElem_cons hk,e];simp [mL,a8]
theorem OU {l:List Int} {k:Nat} (h:mL l=mL (l.drop k)) (hk:l.length≤k):(0:Int)=mL l:=by
 rw [h,List.drop_of_length_le hk]; rfl
def Fu (a b:Key):Int:=mL [nR a.len b.len,Lib.compareBytes a.text b.text]
def nn (a b:Key):Bool:=decide (Fu a b < 0)
def uY (c:Key):Bool:=!(decide (c.len < 1) || decide (c.len > 12) || decide (hQ c.text < 0) || decide (hQ c.text > 12))
def p7:List Key→Bool
 | []=>true
 | [_]=>true
 | a::b::r=>nn a b && p7 (b::r)
def sw (l:List Key):Int:=if l.length > 5 then 3 else if l.all uY=true then (if p7 l=true then 0 else 7) else 2
def Je (l:List Key) (k:Key):Nat:=(l.filter fun c=>!nn k c).length
def ofM (cuts:List Key) (w:ag):Int:=if word w then (Je cuts ⟨hQ w,w⟩:Int) else -1
def sx (cuts:List Key) (shard:Int) (w:ag):Bool:=decide (ofM cuts w≥0) && (ofM cuts w==shard)
theorem OV {cuts:List Key} {shard:Int} {w:ag} (h1:0≤ofM cuts w) (aa:ofM cuts w=shard):sx cuts shard w=true:=by simp [sx,←aa,h1]
theorem OW {cuts:List Key} {shard:Int} {w:ag} (h1:¬ 0≤ofM cuts w):sx cuts shard w=false:=by simp [sx,h1]
theorem OX {cuts:List Key} {shard:Int} {w:ag} (aa:ofM cuts w≠shard):sx cuts shard w=false:=by simp [sx,aa]
def p8 (cuts:List Key) (words:List ag) (shard:Int):List ag:=words.filter (sx cuts shard)
theorem OY (l:List Key):p7 (l.take 1)=true:=by
 cases l<;>rfl
theorem OZ:∀ {l:List Key} {k:Nat} {x y:Key},p7 (l.take (k+1))=true→l[k]?=some x→l[k+1]?=some y→nn x y=true→p7 (l.take (k+2))=true
 | [],k,x,y,_,ad,_,_=>by simp at ad
 | a::l,0,x,y,h,ad,av,an=>by
  cases l with
  | nil=>simp at av
  | cons b l =>
   simp only [List.getElem?_cons_zero,Option.some.injEq] at ad
   simp only [Nat.zero_add,List.getElem?_cons_succ,List.getElem?_cons_zero,Option.some.injEq] at av
   subst ad; subst av
   simp [p7,an]
 | a::l,k+1,x,y,h,ad,av,an=>by
  cases l with
  | nil=>simp at ad
  | cons b l =>
   simp only [List.take_succ_cons,p7,Bool.and_eq_true] at h ⊢
   refine ⟨h.1,?_⟩
   have:=OZ (l:=b::l) (k:=k) (x:=x) (y:=y) (by simpa using h.2) (by simpa using ad) (by simpa using av) an
   simpa using this
theorem O0:∀ {l:List Key} {k:Nat} {x y:Key},l[k]?=some x→l[k+1]?=some y→nn x y=false→p7 l=false
 | [],k,x,y,ad,_,_=>by simp at ad
 | a::l,0,x,y,ad,av,an=>by
  cases l with
  | nil=>simp at av
  | cons b l =>
   simp only [List.getElem?_cons_zero,Option.some.injEq] at ad
   simp only [Nat.zero_add,List.getElem?_cons_succ,List.getElem?_cons_zero,Option.some.injEq] at av
   subst ad; subst av
   simp [p7,an]
 | a::l,k+1,x,y,ad,av,an=>by
  cases l with
  | nil=>simp at ad
  | cons b l =>
   have:=O0 (l:=b::l) (k:=k) (x:=x) (y:=y) (by simpa using ad) (by simpa using av) an
   simp [p7,this]
theorem O1 {l:List Key} {j:Nat} {x y:Key} (h:p7 (l.take j)=true) (aS:1≤j) (ad:l[j-1]?=some x) (av:l[j]?=some y) (an:nn x y=true):p7 (l.take (j+1))=true:=by
 obtain ⟨k,rfl⟩:∃ k,j=k+1:=⟨j-1,by omega⟩;exact OZ h (by simpa using ad) av an
theorem O2 {l:List Key} (h:((l.length:Nat):Int) > 5):(3:Int)=sw l:=by
 unfold sw; rw [if_pos (by omega)]
theorem O3 {l:List Key} {k:Nat} {x:Key} (bT:¬ (((l.length:Nat):Int) > 5)) (ad:l[k]?=some x) (hw:uY x=false):(2:Int)=sw l:=by
 unfold sw; rw [if_neg (by omega),if_neg (by rw [Jd ad hw]; simp)]
theorem O4 {l:List Key} {j:Nat} {x y:Key} (bT:¬ (((l.length:Nat):Int) > 5)) (ao:l.all uY=true) (aS:1≤j) (ad:l[j-1]?=some x) (av:l[j]?=some y) (an:nn x y=false):(7:Int)=sw l:=by
 obtain ⟨k,rfl⟩:∃ k,j=k+1:=⟨j-1,by omega⟩;unfold sw; rw [if_neg (by omega),if_pos ao,if_neg (by rw [O0 (by simpa using ad) av an]; simp)]
theorem O5 {l:List Key} {k:Nat} (bT:¬ (((l.length:Nat):Int) > 5)) (ao:l.all uY=true) (h:p7 (l.take k)=true) (hk:l.length≤k):(0:Int)=sw l:=by
 rw [List.take_of_length_le hk] at h;unfold sw; rw [if_neg (by omega),if_pos ao,if_pos h]
theorem AQ {α:Type} {p:α→Bool} {l:List α} {k:Nat} {x:α} (ad:l[k]?=some x) (hp:p x=true):(l.take (k+1)).filter p=(l.take k).filter p++[x]:=by
 rw [List.take_add_one,ad]; simp [List.filter_append,hp]
theorem xo {α:Type} {p:α→Bool} {l:List α} {k:Nat} {x:α} (ad:l[k]?=some x) (hp:p x=false):(l.take (k+1)).filter p=(l.take k).filter p:=by
 rw [List.take_add_one,ad]; simp [List.filter_append,hp]
theorem Jf {α:Type} {p:α→Bool} {l:List α} {k:Nat} (h:l.length≤k):(l.take k).filter p=l.filter p:=by
 rw [List.take_of_length_le h]
def CC (c:b1):Bool:=within c.workers 1 5 && within c.db 1 (min 3 c.workers)
def Fv (c:b1):Bool:=within c.dA 1 4 && within c.batch 1 5 && within c.dE 8 64
def Fw (c:b1):Bool:=within c.dB 1 1000 && within c.dC 1 1000 && within c.first 1 10 && within c.cap c.first 50 && within c.dD 0 10
def may (c:b1):Bool:=(eD c.words==0) && (sw c.cuts==0) && (CC c && Fv c && Fw c)
def hs (c:b1):Nat:=if may c=true then c.cuts.length+1 else 0
def iA (c:b1) (shard:Int):List Int:=if within shard 0 ((hs c:Int)-1)=true then (List.range c.db.toNat).map (fun j:Nat=>1+(shard+(j:Int)) % c.workers) else []
def bY (c:b1) (worker:Int):List Int:=((List.range (hs c)).filter (fun s:Nat=>(iA c (s:Int)).contains worker)).map (fun s:Nat=>(s:Int))
def rN (c:b1) (shard:Int):List ag:=p8 c.cuts c.words shard
def qP (l:List ag):Bool:=decide (l.length > 80) || l.any fun s=>decide (s.length > 100)
def uZ (c:b1):Bool:=decide (c.cuts.length > 10) || (c.cuts.any fun k=>decide (k.text.length > 100)) || qP c.words
def lK (x n:Int):Int:=(IntKind.u64.wrap x) % n
theorem O6 {α:Type} {p:α→Bool} {l:List α} {k:Nat} {x:α} (h:(l.take k).any p=false) (ad:l[k]?=some x) (hp:p x=false):(l.take (k+1)).any p=false:=by
 rw [List.take_add_one,ad]; simp_all
theorem O7 {α:Type} {p:α→Bool} {l:List α} {k:Nat} (h:(l.take k).any p=false) (hk:l.length≤k):l.any p=false:=by
 rwa [List.take_of_length_le hk] at h
theorem O8 {α:Type} {p:α→Bool} {l:List α} {k:Nat} {x:α} (ad:l[k]?=some x) (hp:p x=true):l.any p=true:=
 List.any_eq_true.2 ⟨x,List.mem_of_getElem? ad,hp⟩
theorem Fx {α:Type} {a b:List α} {k:Nat} {x y:α} (h:a.take k=b.take k) (ad:a[k]?=some x) (av:b[k]?=some y) (e:x=y):a.take (k+1)=b.take (k+1):=by
 rw [List.take_add_one,List.take_add_one,ad,av,h,e]
theorem Fy {α:Type} {a b:List α} {k:Nat} (h:a.take k=b.take k) (hk:a.length≤k) (a':a.length=b.length):a=b:=by
 rwa [List.take_of_length_le hk,List.take_of_length_le (by omega)] at h
theorem CD {α:Type} {a b:List α} {k:Nat} {x y:α} (ad:a[k]?=some x) (av:b[k]?=some y) (e:x≠y):a≠b:=fun h=>by
 subst h; rw [ad] at av; exact e (by simpa using av)
def ov:List Int→Int→Int
 | [],_=>-1
 | x::r,v=>if v=x then 0 else (if ov r v < 0 then -1 else ov r v+1)
theorem XV:∀ (l:List Int) (v:Int),-1≤ov l v
 | [],_=>by simp [ov]
 | x::r,v=>by unfold ov; have:=XV r v; split<;>(try split)<;>omega
structure tv (s:List Int) (v:Int) (k:Nat):Prop where
 none:∀ x∈s.take k,v≠x
theorem tv.start (s:List Int) (v:Int):tv s v 0:=⟨by simp⟩
theorem tv.next {s:List Int} {v:Int} {k:Nat} {x:Int} (h:tv s v k) (ad:s[k]?=some x) (cA:v≠x):tv s v (k+1):=by
 refine ⟨fun y av=>?_⟩;rw [List.take_add_one,ad] at av;simp only [Option.toList_some,List.mem_append,List.mem_singleton] at av;rcases av with av|rfl
 · exact h.none y av
 · exact cA
theorem O9:∀ (s:List Int) (v:Int) (k:Nat),(∀ x∈s.take k,v≠x)→s[k]?=some v→ov s v=(k:Int)
 | [],_,_,_,h=>by simp at h
 | x::r,v,0,_,h=>by
  simp only [List.getElem?_cons_zero,Option.some.injEq] at h
  simp [ov,h]
 | x::r,v,k+1,aI,h=>by
  have h1:v≠x:=aI x (by simp)
  have bq:=O9 r v k (fun y av=>aI y (by simp [av])) (by simpa using h)
  rw [ov,if_neg h1,bq,if_neg (by omega)]; rfl
theorem O_:∀ (s:List Int) (v:Int),(∀ x∈s,v≠x)→ov s v=-1
 | [],_,_=>rfl
 | x::r,v,aI=>by
  rw [ov,if_neg (aI x (by simp)),O_ r v (fun y av=>aI y (by simp [av])),if_pos (by omega)]
theorem tv.found {s:List Int} {v:Int} {k:Nat} {x:Int} (h:tv s v k) (ad:s[k]?=some x) (he:v=x):((k:Nat):Int)=ov s v:=by
 subst he; exact (O9 s v k h.none ad).symm
theorem tv.fin {s:List Int} {v:Int} {k:Nat} (h:tv s v k) (hk:s.length≤k):(-1:Int)=ov s v:=by
 have:=h.none; rw [List.take_of_length_le hk] at this;exact (O_ s v this).symm
theorem O':∀ (s:List Int) (v:Int),s.contains v=decide (ov s v≥0)
 | [],_=>by simp [ov]
 | x::r,v=>by
  have bq:=O' r v
  by_cases h:v=x
  · subst h; simp [ov]
  · have U:(v==x)=false:=by simpa using h
    rw [List.contains_cons,U,Bool.false_or,bq,ov,if_neg h]
    by_cases aa:ov r v < 0
    · rw [if_pos aa]; simp; omega
    · rw [if_neg aa]; simp; omega
theorem Pa {c:b1} (h:may c=true):c.cuts.length≤5:=by
 simp only [may,Bool.and_eq_true,beq_iff_eq] at h;have aa:=h.1.2;unfold sw at aa;by_cases a':c.cuts.length > 5
 · rw [if_pos a'] at aa; omega
 · omega
theorem XW {c:b1} (h:may c=true):c.words.length≤60:=by
 simp only [may,Bool.and_eq_true,beq_iff_eq] at h;have aa:=h.1.1;unfold eD at aa;by_cases a':c.words.length > 60
 · rw [if_pos a'] at aa; omega
 · omega
theorem qQ (c:b1):hs c≤6:=by
 unfold hs;split
 · rename_i h; have:=Pa h; omega
 · omega
theorem XX {c:b1} {worker:Int} {k:Nat} {l:List Int} (h:l=((List.range k).filter (fun s:Nat=>(iA c (s:Int)).contains worker)).map (fun s:Nat=>(s:Int))) (an:(iA c (k:Int)).contains worker=true) :
 l++[(k:Int)]=((List.range (k+1)).filter (fun s:Nat=>(iA c (s:Int)).contains worker)).map (fun s:Nat=>(s:Int)):=by
 rw [h,List.range_succ,List.filter_append,List.map_append,List.filter_cons,if_pos an]; rfl
theorem XY {c:b1} {worker:Int} {k:Nat} {l:List Int} (h:l=((List.range k).filter (fun s:Nat=>(iA c (s:Int)).contains worker)).map (fun s:Nat=>(s:Int))) (an:(iA c (k:Int)).contains worker=false) :
 l=((List.range (k+1)).filter (fun s:Nat=>(iA c (s:Int)).contains worker)).map (fun s:Nat=>(s:Int)):=by
 rw [h,List.range_succ,List.filter_append,List.map_append,List.filter_cons,if_neg (by rw [an]; exact Bool.false_ne_true)]; simp
theorem XZ {l:List ag} {k:Nat} {x:ag} (ad:l[k]?=some x) (h:((x.length:Nat):Int) > 100):true=qP l:=by
 unfold qP; rw [O8 ad (decide_eq_true (by omega))]; simp
theorem akh {l:List ag} {b:Bool} (h:l.length > 80) (U:b=decide (((l.length:Nat):Int) > 80)):b=qP l:=by
 rw [U,decide_eq_true (by omega),qP,decide_eq_true h]; rfl
theorem X0 {c:b1} {k:Nat} {x:Key} (ad:c.cuts[k]?=some x) (h:((x.text.length:Nat):Int) > 100):true=uZ c:=by
 unfold uZ; rw [O8 ad (decide_eq_true (by omega))]; simp
theorem X1 {c:b1} (h:qP c.words=true):true=uZ c:=by unfold uZ; rw [h]; simp
theorem X2 {c:b1} {k:Nat} {b:Bool} (h:(c.cuts.take k).any (fun s=>decide (s.text.length > 100))=false) (hk:c.cuts.length≤k∨c.cuts.length > 10) (hw:qP c.words=false) (U:b=decide (((c.cuts.length:Nat):Int) > 10)):b=uZ c:=by
 rw [U];unfold uZ;rw [hw];by_cases sy:c.cuts.length > 10
 · rw [decide_eq_true sy,decide_eq_true (by omega)]; simp
 · rw [decide_eq_false sy,decide_eq_false (by omega),O7 h (by omega)]; simp
theorem Jg (x:Int):0≤IntKind.u64.wrap x∧IntKind.u64.wrap x≤18446744073709551615:=by
 simp only [IntKind.wrap,IntKind.bits,IntKind.signed];simp
 omega
theorem Pb (n:Int) (h:0≤n∧n≤9223372036854775807):IntKind.u64.wrap n=n:=IntWalk.u64_in n (by omega)
theorem y3 (x n:Int) (h:1≤n):0≤lK x n∧lK x n < n:=⟨Int.emod_nonneg _ (by omega),Int.emod_lt_of_pos _ (by omega)⟩
theorem X3 {x n:Int} (h:1≤n) (aI:bp n):IntKind.i64.wrap (IntKind.u64.wrap x % IntKind.u64.wrap n)=lK x n:=by
 have h1:=Pb n ⟨by omega,aI.2⟩;have aa:=y3 x n h;rw [h1];exact IntWalk.i64_in _ ⟨by unfold lK at aa; omega,by have:=aI.2; unfold lK at aa; omega⟩
theorem mw {x l m:Int} (h:within x l m=true):l≤x∧x≤m:=by
 simp only [within,Bool.and_eq_true,decide_eq_true_eq] at h; omega
theorem ow {x l m:Int} (h:within x l m=false):x < l∨m < x:=by
 simp only [within,Bool.and_eq_false_iff,decide_eq_false_iff_not] at h; omega
theorem tw {c:b1} (h:may c=true):1≤c.workers∧c.workers≤5∧1≤c.db∧c.db≤3∧c.db≤c.workers∧c.words.length≤60∧c.cuts.length≤5:=by
 have h1:=Pa h;have aa:=XW h;simp only [may,CC,Bool.and_eq_true] at h;have aq:=mw h.2.1.1.1;have a6:=mw h.2.1.1.2;omega
theorem Fz {c:b1} (h:0 < hs c):may c=true:=by
 unfold hs at h;split at h
 · assumption
 · omega
theorem Jh {c:b1} {shard:Int} {j:Nat} {l:List Int} (hw:within shard 0 ((hs c:Int)-1)=true) (al:l=(List.range j).map (fun j:Nat=>1+(shard+(j:Int)) % c.workers)) (aS:j=c.db.toNat):l=iA c shard:=by
 subst aS; rw [al,iA,if_pos hw]
theorem FA {c:b1} {shard:Int} (hw:within shard 0 ((hs c:Int)-1)=false):[]=iA c shard:=by
 rw [iA,if_neg (by rw [hw]; exact Bool.false_ne_true)]
theorem X4 {l:List ag} {k:Nat} {b:Bool} (h:(l.take k).any (fun s=>decide (s.length > 100))=false) (hk:l.length≤k∨80 < l.length) (U:b=decide (((l.length:Nat):Int) > 80)):b=qP l:=by
 rw [U];unfold qP;by_cases qR:l.length > 80
 · rw [decide_eq_true qR,decide_eq_true (by omega)]; rfl
 · rw [decide_eq_false qR,decide_eq_false (by omega),O7 h (by omega)]; rfl
def b1.okB (c:b1):Bool:=
 decide (bp c.workers) && decide (bp c.db) && decide (bp c.dA) && decide (bp c.batch) && decide (bp c.dB) && decide (bp c.dC) && decide (bp c.first) && decide (bp c.cap) && decide (bp c.dD) && decide (bp c.dE) &&
 (c.words.all fun s=>decide (s.length≤9223372036854775807)) && (c.cuts.all fun k=>decide (bp k.len) && decide (k.text.length≤9223372036854775807))
theorem b1.l8 {c:b1} (h:c.okB=true):c.Ok:=by
 simp only [b1.okB,Bool.and_eq_true,decide_eq_true_eq,List.all_eq_true] at h;obtain ⟨⟨⟨⟨⟨⟨⟨⟨⟨⟨⟨h1,aa⟩,aq⟩,a6⟩,bT⟩,ed⟩,jH⟩,qR⟩,tx⟩,sy⟩,X5⟩,X6⟩:=h;exact ⟨h1,aa,aq,a6,bT,ed,jH,qR,tx,sy,X5,X6⟩
structure Key.Ok (k:Key):Prop where
 len:bp k.len
 text:k.text.length≤9223372036854775807
theorem head_cons {α:Type} {l:List α} {x:α} (h:l[0]?=some x):l=x::l.drop 1:=by
 cases l with
 | nil=>simp at h
 | cons a l=>simp at h; subst h; rfl
end Go.ab
namespace Go.aA
open Go
def cH (s:ag) (k:Nat):Nat:=(s[k]?.getD 0).toNat
theorem oW (s:ag) (k:Nat):cH s k < 256:=by unfold cH; exact (s[k]?.getD 0).toNat_lt
section
variable {P:Program} {E:Env} {C:World→Prop} {d:Option Tmp} {ty:TypeId} {pos:String} {af:Array Edge} {gd:Option (Nat×Bool)}
theorem aY.np {s t:TypeId} {x:Operand} {k iy:IntKind} {p:Int} (aF:(P.underlying s).isSome=true) (aQ:P.underlying t=some (.int iy)) (ad:aC E x=some (.int k p)) (hw:iy.wrap p=p):aY P ⟨d,.convert s t x,ty,pos,af,gd⟩ E C (.int iy p):=by
 have h:=aY.rK (P:=P) (E:=E) (C:=C) (d:=d) (ty:=ty) (pos:=pos) (af:=af) (gd:=gd) aF aQ ad;rwa [hw] at h
theorem aY.X7 {xt yt:TypeId} {x y:Operand} {k iy:IntKind} {p:Int} (r:Int) (ad:aC E x=some (.int k p)) (av:aC E y=some (.int iy 1)) (aB:p / 2=r):aY P ⟨d,.binOp .shr xt x y yt,ty,pos,af,gd⟩ E C (.int k r):=fun a ao w _=>by
 have e:p.fdiv 2=r:=by rw [←aB]; exact Int.fdiv_eq_ediv_of_nonneg _ (by omega)
 have hk:Min.min 1 k.bits=1:=by cases k<;>rfl
 simp [execOp,ao.aC ad,ao.aC av,eqGuard,Go.binOp,Op.shift,hk,e]
theorem aY.kY {x y:Operand} {xt yt:TypeId} {p q:Int} (r:Int) (ad:aC E x=some (.int .i32 p)) (av:aC E y=some (.int .i32 q)) (aB:p+q=r∧-2147483648≤r∧r≤2147483647):aY P ⟨d,.binOp .add xt x y yt,ty,pos,af,gd⟩ E C (.int .i32 r):=by
 have h:=aY.add (P:=P) (C:=C) (d:=d) (xt:=xt) (yt:=yt) (ty:=ty) (pos:=pos) (af:=af) (gd:=gd) ad av;rw [IntWalk.i32_in _ (by omega),aB.1] at h; exact h
theorem aY.xp {x y:Operand} {xt yt:TypeId} {p q:Int} (r:Int) (ad:aC E x=some (.int .i32 p)) (av:aC E y=some (.int .i32 q)) (aB:p-q=r∧-2147483648≤r∧r≤2147483647):aY P ⟨d,.binOp .sub xt x y yt,ty,pos,af,gd⟩ E C (.int .i32 r):=by
 have h:=aY.sub (P:=P) (C:=C) (d:=d) (xt:=xt) (yt:=yt) (ty:=ty) (pos:=pos) (af:=af) (gd:=gd) ad av;rw [IntWalk.i32_in _ (by omega),aB.1] at h; exact h
theorem aY.oX {x y:Operand} {xt yt:TypeId} {p q:Int} (r:Int) (ad:aC E x=some (.int .i32 p)) (av:aC E y=some (.int .i32 q)) (aB:p*q=r∧-2147483648≤r∧r≤2147483647):aY P ⟨d,.binOp .mul xt x y yt,ty,pos,af,gd⟩ E C (.int .i32 r):=by
 have h:=aY.mul (P:=P) (C:=C) (d:=d) (xt:=xt) (yt:=yt) (ty:=ty) (pos:=pos) (af:=af) (gd:=gd) ad av;rw [IntWalk.i32_in _ (by rw [aB.1]; omega),aB.1] at h; exact h
theorem aY.xq {t:TypeId} {x y:Operand} {s:ag} {k:IntKind} {n:Int} (i:Nat) (aQ:P.underlying t=some .string) (ad:aC E x=some (aH s)) (av:aC E y=some (.int k n)) (aI:n=(i:Int)) (al:i < s.length) :
 aY P ⟨d,.index t x y,ty,pos,af,gd⟩ E C (.int .u8 ((cH s i:Nat):Int)):=by
 have h:=aY.Xx (P:=P) (E:=E) (C:=C) (d:=d) (ty:=ty) (pos:=pos) (af:=af) (gd:=gd) i aQ ad av aI al;have e:cH s i=s[i].toNat:=(by unfold cH; rw [List.getElem?_eq_getElem al]; rfl);rw [e]; exact h
end
inductive cx {α β:Type} (R:α→β→Prop):List α→List β→Prop
 | nil:cx R [] []
 | cons {a:α} {b:β} {l:List α} {m:List β}:R a b→cx R l m→cx R (a::l) (b::m)
theorem cx.imp {α β:Type} {R S:α→β→Prop} (h:∀ a b,R a b→S a b) {l:List α} {m:List β} (k:cx R l m):cx S l m:=by
 induction k with
 | nil=>exact .nil
 | cons h1 _ bq=>exact .cons (h _ _ h1) bq
theorem cx.get {α β:Type} {R:α→β→Prop} {l:List α} {m:List β} (k:cx R l m):l.length=m.length∧∀ (i:Nat) (a:α) (b:β),l[i]?=some a→m[i]?=some b→R a b:=by
 induction k with
 | nil=>exact ⟨rfl,by simp⟩
 | cons h1 _ bq =>
  refine ⟨by simp [bq.1],fun i x y ad av=>?_⟩
  cases i with
  | zero=>simp only [List.getElem?_cons_zero,Option.some.injEq] at ad av; subst ad av; exact h1
  | succ i=>exact bq.2 i x y (by simpa using ad) (by simpa using av)
theorem cx.app {α β:Type} {R:α→β→Prop} {l c5:List α} {m m2:List β} (k:cx R l m) (cB:cx R c5 m2):cx R (l++c5) (m++m2):=by
 induction k with
 | nil=>exact cB
 | cons h1 _ bq=>exact .cons h1 bq
end Go.aA
namespace Go.ab
open Go.aA
def gR (s:ag) (k:Nat):Bool:=decide (k < s.length∧128≤cH s k∧cH s k≤191)
def fz (s:ag) (k:Nat):Int:=if gR s k=true then (cH s k:Int)-128 else 0
def eU (s:ag) (i:Nat):Int×Int:=
 let c:Int:=(cH s i:Int)
 if c < 128 then (c,1)
 else if c≥194∧c≤223∧gR s (i+1)=true then ((c-192)*64+fz s (i+1),2)
 else if c≥224∧c≤239∧gR s (i+1)=true∧gR s (i+2)=true then ((c-224)*4096+fz s (i+1)*64+fz s (i+2),3)
 else if c≥240∧c≤244∧gR s (i+1)=true∧gR s (i+2)=true∧gR s (i+3)=true then ((c-240)*262144+fz s (i+1)*4096+fz s (i+2)*64+fz s (i+3),4)
 else (0,0)
def nS (r:Int):Bool:=decide (r≥0) && decide (r≤1114111) && (decide (r < 55296) || decide (r > 57343)) && !(r==65533)
def u0 (s:ag) (i:Nat):Bool:=(eU s i).2==0 || !nS (eU s i).1 || ((eU s i).2==3 && decide ((eU s i).1 < 2048)) || ((eU s i).2==4 && decide ((eU s i).1 < 65536))
theorem get_at (s:ag) (k:Nat):((⟨s.toArray⟩:ByteArray).get! k).toNat=cH s k:=by
 unfold cH;show (s.toArray[k]!).toNat=_;simp [List.getElem!_eq_getElem?_getD];rfl
theorem Ji (L i c:Nat) (an:c < 256):(decide (i < L) && (c / 64==2))=decide (i < L∧128≤c∧c≤191):=by
 rw [Bool.eq_iff_iff];simp only [Bool.and_eq_true,decide_eq_true_eq,beq_iff_eq];omega
def tz (eV c1 c2 kZ:Nat) (bw cB d_:Bool):Nat×Nat:=
 if eV < 128 then (eV,1)
 else if (eV / 32==6 && bw)=true then (if eV % 32*64+c1 % 64≥128 then (eV % 32*64+c1 % 64,2) else (65533,1))
 else if (eV / 16==14 && bw && cB)=true then (if (decide (eV % 16*4096+c1 % 64*64+c2 % 64≥2048) && Utf8.valid ((eV % 16*4096+c1 % 64*64+c2 % 64:Nat):Int))=true then (eV % 16*4096+c1 % 64*64+c2 % 64,3) else (65533,1))
 else if (eV / 8==30 && bw && cB && d_)=true then (if (decide (eV % 8*262144+c1 % 64*4096+c2 % 64*64+kZ % 64≥65536) && Utf8.valid ((eV % 8*262144+c1 % 64*4096+c2 % 64*64+kZ % 64:Nat):Int))=true then (eV % 8*262144+c1 % 64*4096+c2 % 64*64+kZ % 64,4) else (65533,1))
 else (65533,1)
theorem Jj (s:ag) (i:Nat):dec (s.drop i)=tz (cH s i) (cH s (i+1)) (cH s (i+2)) (cH s (i+3)) (gR s (i+1)) (gR s (i+2)) (gR s (i+3)):=by
 have dr:(⟨s.toArray⟩:ByteArray).size=s.length:=(by simp [ByteArray.size]);rw [←OA];unfold Utf8.decode tz gR;simp only [get_at,dr,Nat.add_zero,Utf8.runeError];rw [Ji _ _ _ (oW s (i+1)),Ji _ _ _ (oW s (i+2)),Ji _ _ _ (oW s (i+3))]
def y4 (eV c1 c2 kZ:Int) (bw cB d_:Bool):Int×Int:=
 if eV < 128 then (eV,1)
 else if eV≥194∧eV≤223∧bw=true then ((eV-192)*64+(if bw=true then c1-128 else 0),2)
 else if eV≥224∧eV≤239∧bw=true∧cB=true then ((eV-224)*4096+(if bw=true then c1-128 else 0)*64+(if cB=true then c2-128 else 0),3)
 else if eV≥240∧eV≤244∧bw=true∧cB=true∧d_=true then ((eV-240)*262144+(if bw=true then c1-128 else 0)*4096+(if cB=true then c2-128 else 0)*64+(if d_=true then kZ-128 else 0),4)
 else (0,0)
theorem X8 (s:ag) (i:Nat):eU s i=y4 (cH s i) (cH s (i+1)) (cH s (i+2)) (cH s (i+3)) (gR s (i+1)) (gR s (i+2)) (gR s (i+3)):=rfl
def xr (p:Int×Int):Prop:=p.2=0∨¬ (p.1≥0∧p.1≤1114111∧(p.1 < 55296∨p.1 > 57343)∧p.1≠65533)∨(p.2=3∧p.1 < 2048)∨(p.2=4∧p.1 < 65536)
theorem CE (s:ag) (i:Nat):u0 s i=true↔xr (eU s i):=by
 unfold u0 xr nS;generalize (eU s i).1=r;generalize (eU s i).2=n;simp only [Bool.or_eq_true,Bool.and_eq_true,beq_iff_eq,decide_eq_true_eq,Bool.not_eq_true',Bool.and_eq_false_iff,Bool.or_eq_false_iff,decide_eq_false_iff_not,Bool.not_eq_false'];omega
theorem CF (n:Nat):Utf8.valid (n:Int)=decide (n < 55296∨(57344≤n∧n≤1114111)):=by
 unfold Utf8.valid;rw [Bool.eq_iff_iff];simp only [Bool.or_eq_true,Bool.and_eq_true,decide_eq_true_eq];omega
theorem arith (eV c1 c2 kZ:Nat) (a8:eV < 256) (bw cB d_:Bool) (h1:bw=true→128≤c1∧c1≤191) (aa:cB=true→128≤c2∧c2≤191) (aq:d_=true→128≤kZ∧kZ≤191) :
 (xr (y4 eV c1 c2 kZ bw cB d_)→(tz eV c1 c2 kZ bw cB d_).1=65533) ∧
 (¬ xr (y4 eV c1 c2 kZ bw cB d_)→((tz eV c1 c2 kZ bw cB d_).1:Int)=(y4 eV c1 c2 kZ bw cB d_).1∧((tz eV c1 c2 kZ bw cB d_).2:Int)=(y4 eV c1 c2 kZ bw cB d_).2∧(y4 eV c1 c2 kZ bw cB d_).1≠65533):=by
 unfold tz y4 xr;simp only [CF]
 cases bw<;>cases cB<;>cases d_<;>simp only [Bool.and_true,Bool.and_false,Bool.false_eq_true,if_false,if_true,and_false,and_true,false_and,true_and,forall_const,false_implies,beq_iff_eq,Bool.and_eq_true,decide_eq_true_eq] at *<;>(repeat' split)<;>first|(simp only at *; omega)|omega
theorem Pc (s:ag) (i:Nat):(u0 s i=true→(dec (s.drop i)).1=65533)∧(u0 s i=false→((dec (s.drop i)).1:Int)=(eU s i).1∧((dec (s.drop i)).2:Int)=(eU s i).2∧(eU s i).1≠65533):=by
 have an:∀ k,gR s k=true→128≤cH s k∧cH s k≤191:=fun k h=>by unfold gR at h; exact (of_decide_eq_true h).2
 have h:=arith (cH s i) (cH s (i+1)) (cH s (i+2)) (cH s (i+3)) (oW s i) _ _ _ (an (i+1)) (an (i+2)) (an (i+3));rw [←Jj,←X8] at h;refine ⟨fun U=>h.1 ((CE s i).1 U),fun U=>h.2 (fun hp=>?_)⟩;rw [(CE s i).2 hp] at U; cases U
theorem sA {s:ag} {i:Nat}:gR s i=true↔(i < s.length∧128≤cH s i∧cH s i≤191):=by unfold gR; exact decide_eq_true_iff
theorem X9 {s:ag} {i:Nat} (h:i < s.length∧128≤cH s i∧cH s i≤191):true=gR s i:=(sA.2 h).symm
theorem X_ {s:ag} {i:Nat} (h:¬ (i < s.length∧128≤cH s i∧cH s i≤191)):false=gR s i:=by
 cases an:gR s i with
 | false=>rfl
 | true=>exact absurd (sA.1 an) h
theorem X' {s:ag} {i:Nat} (h:i < s.length∧128≤cH s i∧cH s i≤191):((cH s i:Nat):Int)-128=fz s i:=by
 unfold fz; rw [if_pos (sA.2 h)]
theorem Ya {s:ag} {i:Nat} (h:¬ (i < s.length∧128≤cH s i∧cH s i≤191)):(0:Int)=fz s i:=by
 unfold fz; rw [if_neg (fun an=>h (sA.1 an))]
theorem AR (s:ag) (i:Nat):0≤fz s i∧fz s i≤63:=by
 unfold fz;split
 · rename_i h; have:=sA.1 h; omega
 · omega
theorem Yb {s:ag} {i:Nat} (h:((cH s i:Nat):Int) < 128):((cH s i:Nat):Int)=(eU s i).1∧(1:Int)=(eU s i).2:=by
 unfold eU; simp only; rw [if_pos h]; exact ⟨rfl,rfl⟩
theorem Yc {s:ag} {i:Nat} (h:¬ ((cH s i:Nat):Int) < 128) (aa:((cH s i:Nat):Int)≥194∧((cH s i:Nat):Int)≤223∧gR s (i+1)=true) :
 (((cH s i:Nat):Int)-192)*64+fz s (i+1)=(eU s i).1∧(2:Int)=(eU s i).2:=by
 unfold eU; simp only; rw [if_neg h,if_pos aa]; exact ⟨rfl,rfl⟩
theorem Pd {s:ag} {i:Nat} (h:¬ ((cH s i:Nat):Int) < 128) (aa:¬ (((cH s i:Nat):Int)≥194∧((cH s i:Nat):Int)≤223∧gR s (i+1)=true))
 (aq:((cH s i:Nat):Int)≥224∧((cH s i:Nat):Int)≤239∧gR s (i+1)=true∧gR s (i+2)=true) :
 (((cH s i:Nat):Int)-224)*4096+fz s (i+1)*64+fz s (i+2)=(eU s i).1∧(3:Int)=(eU s i).2:=by
 unfold eU; simp only; rw [if_neg h,if_neg aa,if_pos aq]; exact ⟨rfl,rfl⟩
theorem FB {s:ag} {i:Nat} (h:¬ ((cH s i:Nat):Int) < 128) (aa:¬ (((cH s i:Nat):Int)≥194∧((cH s i:Nat):Int)≤223∧gR s (i+1)=true))
 (aq:¬ (((cH s i:Nat):Int)≥224∧((cH s i:Nat):Int)≤239∧gR s (i+1)=true∧gR s (i+2)=true))
 (a6:((cH s i:Nat):Int)≥240∧((cH s i:Nat):Int)≤244∧gR s (i+1)=true∧gR s (i+2)=true∧gR s (i+3)=true) :
 (((cH s i:Nat):Int)-240)*262144+fz s (i+1)*4096+fz s (i+2)*64+fz s (i+3)=(eU s i).1∧(4:Int)=(eU s i).2:=by
 unfold eU; simp only; rw [if_neg h,if_neg aa,if_neg aq,if_pos a6]; exact ⟨rfl,rfl⟩
theorem hZ {s:ag} {i:Nat} (h:¬ ((cH s i:Nat):Int) < 128) (aa:¬ (((cH s i:Nat):Int)≥194∧((cH s i:Nat):Int)≤223∧gR s (i+1)=true))
 (aq:¬ (((cH s i:Nat):Int)≥224∧((cH s i:Nat):Int)≤239∧gR s (i+1)=true∧gR s (i+2)=true))
 (a6:¬ (((cH s i:Nat):Int)≥240∧((cH s i:Nat):Int)≤244∧gR s (i+1)=true∧gR s (i+2)=true∧gR s (i+3)=true)) :
 (0:Int)=(eU s i).1∧(0:Int)=(eU s i).2:=by
 unfold eU; simp only; rw [if_neg h,if_neg aa,if_neg aq,if_neg a6]; exact ⟨rfl,rfl⟩
theorem Yd (s:ag) (i:Nat):0≤(eU s i).1∧(eU s i).1≤1500000∧0≤(eU s i).2∧(eU s i).2≤4:=by
 have a8:=oW s i;have h1:=AR s (i+1); have aa:=AR s (i+2); have aq:=AR s (i+3);unfold eU;simp only;repeat' split
 all_goals (simp only; omega)
theorem Ye (s:ag) (i:Nat) (al:i < s.length):(i:Int)+(eU s i).2≤s.length:=by
 unfold eU;simp only;repeat' split
 all_goals simp only
 · omega
 · rename_i h; have:=(sA.1 h.2.2).1; omega
 · rename_i h; have:=(sA.1 h.2.2.2).1; omega
 · rename_i h; have:=(sA.1 h.2.2.2.2).1; omega
 · omega
theorem AS (r:Int):nS r=decide (0≤r∧r≤1114111∧(r < 55296∨r > 57343)∧r≠65533):=by
 unfold nS;rw [Bool.eq_iff_iff];simp only [Bool.and_eq_true,Bool.or_eq_true,decide_eq_true_eq,Bool.not_eq_true',beq_eq_false_iff_ne];omega
theorem Yf {r:Int} {b:Bool} (h:0≤r∧r≤1114111∧(r < 55296∨r > 57343)) (U:b=(r != 65533)):b=nS r:=by
 rw [U,AS,Bool.eq_iff_iff];simp only [bne_iff_ne,decide_eq_true_eq];omega
theorem Yg {r:Int} (h:¬ (0≤r∧r≤1114111∧(r < 55296∨r > 57343))):false=nS r:=by
 rw [AS,decide_eq_false (by omega)]
structure lL (s:ag) (i:Nat) (l:List Int):Prop where
 ex:∃ pre,Scan s i pre∧l=pre.map (fun n:Nat=>(n:Int))∧65533∉pre
def dS (s:ag):List Int:=(gj s).map fun n:Nat=>(n:Int)
def k0 (s:ag):Bool:=decide (65533∉gj s)
theorem lL.start (s:ag):lL s 0 []:=⟨⟨[],Scan.start s,rfl,by simp⟩⟩
theorem lL.next {s:ag} {i j:Nat} {l:List Int} (h:lL s i l) (al:i < s.length) (U:u0 s i=false) (aS:(j:Int)=(i:Int)+(eU s i).2):lL s j (l++[(eU s i).1]):=by
 obtain ⟨pre,h1,aa,aq⟩:=h.ex;have hd:=(Pc s i).2 U;have cA:s.drop i≠[]:=fun e=>by have:=congrArg List.length e; simp at this; omega
 have aI:=h1.next cA;have e:j=i+(dec (s.drop i)).2:=(by omega);rw [e];refine ⟨⟨_,aI,by rw [aa,List.map_append,←hd.1]; rfl,?_⟩⟩;simp only [List.mem_append,List.mem_singleton,not_or];exact ⟨aq,fun e=>by have:=hd.1; rw [←e] at this; exact hd.2.2 this.symm⟩
theorem lL.bad {s:ag} {i:Nat} {l:List Int} (h:lL s i l) (al:i < s.length) (U:u0 s i=true):false=k0 s:=by
 obtain ⟨pre,h1,aa,aq⟩:=h.ex;have cA:s.drop i≠[]:=fun e=>by have:=congrArg List.length e; simp at this; omega
 have:=h1.mem cA;rw [(Pc s i).1 U] at this;unfold k0; simp [this]
theorem lL.fin {s:ag} {i:Nat} {l:List Int} (h:lL s i l) (al:s.length≤i):l=dS s∧true=k0 s:=by
 obtain ⟨pre,h1,aa,aq⟩:=h.ex;have:=h1.done (List.drop_of_length_le al);refine ⟨by rw [aa,dS,this],?_⟩;unfold k0; rw [this]; simp [aq]
theorem lL.len {s:ag} {i:Nat} {l:List Int} (h:lL s i l):l.length≤i:=by
 obtain ⟨pre,h1,aa,aq⟩:=h.ex;rw [aa,List.length_map]; exact h1.len
theorem Yh (s:ag):hQ s=if k0 s=true then ((dS s).length:Int) else -1:=by
 unfold hQ k0 dS;by_cases h:65533∈gj s
 · simp [h]
 · simp [h]
theorem FC {s:ag} {i:Nat} (a8:(eU s i).2≠0) (aO:nS (eU s i).1=true) (aq:¬ ((eU s i).2=3∧(eU s i).1 < 2048)) (a6:¬ ((eU s i).2=4∧(eU s i).1 < 65536)):u0 s i=false:=by
 cases U:u0 s i with
 | false=>rfl
 | true =>
  have:=(CE s i).1 U
  rw [AS] at aO
  have:=of_decide_eq_true aO
  unfold xr at *
  omega
theorem lM {s:ag} {i:Nat} (h:(eU s i).2=0∨((eU s i).2=3∧(eU s i).1 < 2048)∨((eU s i).2=4∧(eU s i).1 < 65536)):u0 s i=true:=by
 rw [CE]; unfold xr; omega
theorem lN {s:ag} {i:Nat} (h:nS (eU s i).1=false):u0 s i=true:=by
 rw [CE]; unfold xr;rw [AS] at h;have:=of_decide_eq_false h;omega
def ji (s:ag):List Int:=if k0 s=true then dS s else []
theorem pq {s:ag} (h:false=k0 s):[]=ji s:=by unfold ji; rw [←h]; rfl
theorem pr {s:ag} (h:true=k0 s):dS s=ji s:=by unfold ji; rw [←h]; rfl
theorem Pe (s:ag):hQ s=if k0 s=true then ((ji s).length:Int) else -1:=by
 rw [Yh];by_cases h:k0 s=true
 · rw [if_pos h,if_pos h,ji,if_pos h]
 · rw [if_neg h,if_neg h]
theorem Pf {s:ag} (h:k0 s=false):(-1:Int)=hQ s:=by rw [Pe,h]; rfl
theorem Pg {s:ag} (h:k0 s=true):(((ji s).length:Nat):Int)=hQ s:=by rw [Pe,if_pos h]
structure rO (a b:ag) (i:Nat):Prop where
 eq:Lib.compareBytes a b=Lib.compareBytes (a.drop i) (b.drop i)
theorem rO.start (a b:ag):rO a b 0:=⟨rfl⟩
theorem xu {s:ag} {i:Nat} (h:i < s.length):s.drop i=s[i]::s.drop (i+1):=List.drop_eq_getElem_cons h
theorem y5 {s:ag} {i:Nat} (h:i < s.length):cH s i=s[i].toNat:=by unfold cH; rw [List.getElem?_eq_getElem h]; rfl
theorem rO.lt {a b:ag} {i:Nat} (h:rO a b i) (ao:i < a.length) (U:i < b.length) (an:cH a i < cH b i):(-1:Int)=Lib.compareBytes a b:=by
 rw [y5 ao,y5 U] at an;rw [h.eq,xu ao,xu U,Lib.compareBytes,if_pos (UInt8.lt_iff_toNat_lt.2 an)]
theorem rO.gt {a b:ag} {i:Nat} (h:rO a b i) (ao:i < a.length) (U:i < b.length) (an:cH b i < cH a i):(1:Int)=Lib.compareBytes a b:=by
 rw [y5 ao,y5 U] at an;rw [h.eq,xu ao,xu U,Lib.compareBytes,if_neg (fun fC=>by have:=UInt8.lt_iff_toNat_lt.1 fC; omega),if_pos (UInt8.lt_iff_toNat_lt.2 an)]
theorem rO.next {a b:ag} {i:Nat} (h:rO a b i) (ao:i < a.length) (U:i < b.length) (an:cH a i=cH b i):rO a b (i+1):=by
 rw [y5 ao,y5 U] at an;refine ⟨?_⟩;rw [h.eq,xu ao,xu U,Lib.compareBytes,if_neg (fun fC=>by have:=UInt8.lt_iff_toNat_lt.1 fC; omega),if_neg (fun fC=>by have:=UInt8.lt_iff_toNat_lt.1 fC; omega)]
theorem rO.fin {a b:ag} {i:Nat} (h:rO a b i) (he:a.length≤i∨b.length≤i) (FD:i≤a.length) (Ph:i≤b.length) {r:Int} (aB:(a.length < b.length∧r=-1)∨(b.length < a.length∧r=1)∨(a.length=b.length∧r=0)):r=Lib.compareBytes a b:=by
 rw [h.eq];rcases aB with ⟨h1,aa⟩|⟨h1,aa⟩|⟨h1,aa⟩
 · have U:i < b.length:=(by omega);rw [List.drop_of_length_le (show a.length≤i by omega),xu U,aa]; rfl
 · have ao:i < a.length:=(by omega);rw [List.drop_of_length_le (show b.length≤i by omega),xu ao,aa]; rfl
 · rw [List.drop_of_length_le (show a.length≤i by omega),List.drop_of_length_le (show b.length≤i by omega),aa]; rfl
end Go.ab
namespace Go.ab
open Go.aA
def jt (c:Nat):Prop:=c≤1114111∧(c < 55296∨57343 < c)∧c≠65533
def gH (n:Nat):UInt8:=UInt8.ofNat n
def du (c:Nat):ag:=
 if c < 128 then [gH c] else if c < 2048 then [gH (192+c / 64),gH (128+c % 64)]
 else if c < 65536 then [gH (224+c / 4096),gH (128+c / 64 % 64),gH (128+c % 64)]
 else [gH (240+c / 262144),gH (128+c / 4096 % 64),gH (128+c / 64 % 64),gH (128+c % 64)]
theorem Yi (r:Int) (h:Utf8.valid r=true):eX r=du r.toNat:=by
 unfold eX Utf8.encode du gH;simp only [h,if_true];by_cases h1:r.toNat < 128
 · rw [if_pos h1,if_pos h1]
 · rw [if_neg h1,if_neg h1];by_cases aa:r.toNat < 2048
   · rw [if_pos aa,if_pos aa]
   · rw [if_neg aa,if_neg aa];by_cases aq:r.toNat < 65536
     · rw [if_pos aq,if_pos aq]
     · rw [if_neg aq,if_neg aq]
theorem xv {c:Nat} (h:jt c):eX (c:Int)=du c:=by
 have bG:Utf8.valid (c:Int)=true:=(by rw [CF]; exact decide_eq_true (by unfold jt at h; omega));have:=Yi _ bG;rwa [Int.toNat_natCast] at this
theorem tA (n:Nat):(gH n).toNat=n % 256:=by unfold gH; simp
theorem u1 (s:ag) (k:Nat) (h:k < s.length):gH (cH s k)=s[k]:=by
 rw [y5 h]; unfold gH; simp
theorem v' {a b:Nat} (h:a=b):gH a=gH b:=by rw [h]
theorem take_one {s:ag} (h:1≤s.length):s.take 1=[gH (cH s 0)]:=by
 rw [u1 s 0 (by omega)]
 match s,h with
 | a::r,_=>rfl
theorem Yj {s:ag} (h:2≤s.length):s.take 2=[gH (cH s 0),gH (cH s 1)]:=by
 rw [u1 s 0 (by omega),u1 s 1 (by omega)]
 match s,h with
 | a::b::r,_=>rfl
theorem Yk {s:ag} (h:3≤s.length):s.take 3=[gH (cH s 0),gH (cH s 1),gH (cH s 2)]:=by
 rw [u1 s 0 (by omega),u1 s 1 (by omega),u1 s 2 (by omega)]
 match s,h with
 | a::b::c::r,_=>rfl
theorem Yl {s:ag} (h:4≤s.length):s.take 4=[gH (cH s 0),gH (cH s 1),gH (cH s 2),gH (cH s 3)]:=by
 rw [u1 s 0 (by omega),u1 s 1 (by omega),u1 s 2 (by omega),u1 s 3 (by omega)]
 match s,h with
 | a::b::c::d::r,_=>rfl
theorem xw {s:ag} (aF:s≠[]) (h:(dec s).1≠65533):jt (dec s).1∧du (dec s).1=s.take (dec s).2:=by
 have a':1≤s.length:=(by cases s with|nil=>exact absurd rfl aF|cons a r=>simp);have hd:=Jj s 0;rw [List.drop_zero] at hd;rw [hd] at h ⊢;have lJ:=oW s 0; have aG:=oW s 1; have aN:=oW s 2; have bn:=oW s 3;have c1:gR s 1=true→1 < s.length∧128≤cH s 1∧cH s 1≤191:=fun h=>sA.1 h
 have c2:gR s 2=true→2 < s.length∧128≤cH s 2∧cH s 2≤191:=fun h=>sA.1 h
 have kZ:gR s 3=true→3 < s.length∧128≤cH s 3∧cH s 3≤191:=fun h=>sA.1 h
 simp only [Nat.zero_add] at h ⊢;unfold tz at h ⊢;simp only [CF,Bool.and_eq_true,beq_iff_eq,decide_eq_true_eq] at h ⊢;split
 · rename_i a8;refine ⟨⟨by omega,by omega,by omega⟩,?_⟩;unfold du;rw [if_pos a8,take_one a']
 · rename_i a8;rw [if_neg a8] at h;split
   · rename_i h1;rw [if_pos h1] at h;have:=c1 h1.2;split
     · rename_i aa;rw [if_pos aa] at h;refine ⟨⟨by omega,by omega,h⟩,?_⟩;simp only;unfold du;rw [if_neg (by omega),if_pos (by omega),Yj (by omega)];congr 1
       · exact v' (by omega)
       · congr 1; exact v' (by omega)
     · rename_i aa; rw [if_neg aa] at h; exact absurd rfl h
   · rename_i h1;rw [if_neg h1] at h;split
     · rename_i aa;rw [if_pos aa] at h;have:=c1 aa.1.2; have:=c2 aa.2;split
       · rename_i aq;rw [if_pos aq] at h;simp only at h;refine ⟨⟨by omega,by omega,h⟩,?_⟩;simp only;unfold du;rw [if_neg (by omega),if_neg (by omega),if_pos (by omega),Yk (by omega)];congr 1
         · exact v' (by omega)
         · congr 1
           · exact v' (by omega)
           · congr 1; exact v' (by omega)
       · rename_i aq; rw [if_neg aq] at h; exact absurd rfl h
     · rename_i aa;rw [if_neg aa] at h;split
       · rename_i aq;rw [if_pos aq] at h;have:=c1 aq.1.1.2; have:=c2 aq.1.2; have:=kZ aq.2;split
         · rename_i a6;rw [if_pos a6] at h;simp only at h;refine ⟨⟨by omega,by omega,h⟩,?_⟩;simp only;unfold du;rw [if_neg (by omega),if_neg (by omega),if_neg (by omega),Yl (by omega)];congr 1
           · exact v' (by omega)
           · congr 1
             · exact v' (by omega)
             · congr 1
               · exact v' (by omega)
               · congr 1; exact v' (by omega)
         · rename_i a6; rw [if_neg a6] at h; exact absurd rfl h
       · rename_i aq; rw [if_neg aq] at h; exact absurd rfl h
theorem FE (a:UInt8) (s:ag):cH (a::s) 0=a.toNat:=rfl
theorem y6 (a b:UInt8) (s:ag):cH (a::b::s) 1=b.toNat:=rfl
theorem FF (a b c:UInt8) (s:ag):cH (a::b::c::s) 2=c.toNat:=rfl
theorem Pj (a b c d:UInt8) (s:ag):cH (a::b::c::d::s) 3=d.toNat:=rfl
theorem AT {s:ag} {k:Nat} (h:k < s.length∧128≤cH s k∧cH s k≤191):gR s k=true:=sA.2 h
theorem Jk {c:Nat} (h:jt c) (t:ag):dec (du c++t)=(c,(du c).length):=by
 have hd:=Jj (du c++t) 0;rw [List.drop_zero] at hd;rw [hd];obtain ⟨h1,aa,aq⟩:=h;unfold du;simp only [Nat.zero_add];split
 · rename_i a8;simp only [List.cons_append,List.nil_append,FE,tA];unfold tz;rw [if_pos (by omega)];simp only [List.length_cons,List.length_nil,Prod.mk.injEq,and_true]; omega
 · rename_i a8;split
   · rename_i Ym;have bw:gR ([gH (192+c / 64),gH (128+c % 64)]++t) 1=true:=AT (by simp only [List.cons_append,List.nil_append,y6,tA,List.length_cons]; omega);rw [bw];simp only [List.cons_append,List.nil_append,FE,y6,tA];unfold tz;rw [if_neg (by omega),if_pos (by simp only [Bool.and_true,beq_iff_eq]; omega),if_pos (by omega)];simp only [List.length_cons,List.length_nil,Prod.mk.injEq,and_true]; omega
   · rename_i Ym;split
     · rename_i Yn;have bw:gR ([gH (224+c / 4096),gH (128+c / 64 % 64),gH (128+c % 64)]++t) 1=true:=AT (by simp only [List.cons_append,List.nil_append,y6,tA,List.length_cons]; omega);have cB:gR ([gH (224+c / 4096),gH (128+c / 64 % 64),gH (128+c % 64)]++t) 2=true:=AT (by simp only [List.cons_append,List.nil_append,FF,tA,List.length_cons]; omega);rw [bw,cB];simp only [List.cons_append,List.nil_append,FE,y6,FF,tA];unfold tz;rw [if_neg (by omega),if_neg (by simp only [Bool.and_true,beq_iff_eq]; omega),if_pos (by simp only [Bool.and_true,beq_iff_eq]; omega),if_pos (by rw [CF]; simp only [Bool.and_eq_true,decide_eq_true_eq]; omega)];simp only [List.length_cons,List.length_nil,Prod.mk.injEq,and_true]; omega
     · rename_i Yn;have bw:gR ([gH (240+c / 262144),gH (128+c / 4096 % 64),gH (128+c / 64 % 64),gH (128+c % 64)]++t) 1=true:=AT (by simp only [List.cons_append,List.nil_append,y6,tA,List.length_cons]; omega);have cB:gR ([gH (240+c / 262144),gH (128+c / 4096 % 64),gH (128+c / 64 % 64),gH (128+c % 64)]++t) 2=true:=AT (by simp only [List.cons_append,List.nil_append,FF,tA,List.length_cons]; omega);have d_:gR ([gH (240+c / 262144),gH (128+c / 4096 % 64),gH (128+c / 64 % 64),gH (128+c % 64)]++t) 3=true:=AT (by simp only [List.cons_append,List.nil_append,Pj,tA,List.length_cons]; omega);rw [bw,cB,d_];simp only [List.cons_append,List.nil_append,FE,y6,FF,Pj,tA];unfold tz;rw [if_neg (by omega),if_neg (by simp only [Bool.and_true,beq_iff_eq]; omega),if_neg (by simp only [Bool.and_true,beq_iff_eq]; omega),if_pos (by simp only [Bool.and_true,beq_iff_eq]; omega),if_pos (by rw [CF]; simp only [Bool.and_eq_true,decide_eq_true_eq]; omega)];simp only [List.length_cons,List.length_nil,Prod.mk.injEq,and_true]; omega
def hh (s:ag):Prop:=65533∉gj s
theorem Pk {s:ag}:k0 s=true↔hh s:=by unfold k0 hh; exact decide_eq_true_iff
theorem xx {s:ag} (aF:s≠[]):hh s↔(dec s).1≠65533∧hh (s.drop (dec s).2):=by
 unfold hh;rw [v8 aF,List.mem_cons,not_or];exact ⟨fun h=>⟨fun e=>h.1 e.symm,h.2⟩,fun h=>⟨fun e=>h.1 e.symm,h.2⟩⟩
theorem hh.split {s:ag} (h:hh s) (aF:s≠[]):jt (dec s).1∧s=du (dec s).1++s.drop (dec s).2∧hh (s.drop (dec s).2):=by
 have h1:=(xx aF).1 h;have aa:=xw aF h1.1;exact ⟨aa.1,by rw [aa.2,List.take_append_drop],h1.2⟩
theorem Jl (c:Nat):du c≠[]:=by
 unfold du; repeat' split
 all_goals simp
theorem Pl (c:Nat):1≤(du c).length:=by
 unfold du; repeat' split
 all_goals simp
theorem hh.app {c:Nat} {t:ag} (an:jt c) (aQ:hh t):hh (du c++t):=by
 have cA:du c++t≠[]:=(by simp [Jl]);rw [xx cA,Jk an t];simp only [List.drop_left];exact ⟨an.2.2,aQ⟩
theorem u2 {c:Nat} (an:jt c) (t:ag):gj (du c++t)=c::gj t:=by
 have cA:du c++t≠[]:=(by simp [Jl]);rw [v8 cA,Jk an t];simp only [List.drop_left]
def qS (rs:List Nat):ag:=rs.flatMap du
theorem Pm:∀ (rs:List Nat),(∀ c∈rs,jt c)→gj (qS rs)=rs
 | [],_=>v7
 | c::rs,h=>by
  show gj (du c++qS rs)=_
  rw [u2 (h c (by simp)),Pm rs fun c an=>h c (by simp [an])]
theorem Jm {p:ag→Prop} (a8:p []) (h1:∀ c t,jt c→hh t→p t→p (du c++t)):∀ s,hh s→p s:=by
 have:∀ n s,s.length≤n→hh s→p s:=by
  intro n
  induction n with
  | zero=>intro s aF _; have:s=[]:=List.eq_nil_of_length_eq_zero (by omega); subst this; exact a8
  | succ n bq =>
   intro s aF bd
   by_cases he:s=[]
   · subst he; exact a8
   · obtain ⟨g1,g2,g3⟩:=bd.split he
     have:=xl s he
     rw [g2]
     exact h1 _ _ g1 g3 (bq _ (by rw [List.length_drop]; omega) g3)
 exact fun s bd=>this _ s (Nat.le_refl _) bd
theorem FG (s:ag) (h:hh s):qS (gj s)=s∧∀ c∈gj s,jt c:=by
 revert s
 refine Jm ⟨by rw [v7]; rfl,by rw [v7]; simp⟩ ?_;intro c t an aQ bq;rw [u2 an];refine ⟨by show du c++qS (gj t)=_; rw [bq.1],fun d hd=>?_⟩;rcases List.mem_cons.1 hd with rfl|hd
 · exact an
 · exact bq.2 d hd
theorem Pn {s:ag} (h:hh s):hQ s=((gj s).length:Int):=by unfold hQ; rw [if_neg h]
theorem Yo {s:ag} (h:0≤hQ s):hh s:=by
 unfold hQ at h;split at h
 · omega
 · assumption
theorem Jn {s:ag} (h:word s=true):hh s∧1≤(gj s).length∧(gj s).length≤12:=by
 unfold word at h;simp only [Bool.and_eq_true,decide_eq_true_eq] at h;have bd:=Yo (by omega:0≤hQ s);rw [Pn bd] at h;exact ⟨bd,by omega,by omega⟩
end Go.ab
namespace Go.ab
open Go.aA
def mx (a b:ag):Prop:=Lib.compareBytes a b < 0
theorem FH:∀ (a:ag),Lib.compareBytes a a=0
 | []=>rfl
 | a::x=>by unfold Lib.compareBytes; rw [if_neg (by simp),if_neg (by simp)]; exact FH x
theorem cmp_eq:∀ {a b:ag},Lib.compareBytes a b=0→a=b
 | [],[],_=>rfl
 | [],_::_,h=>by simp [Lib.compareBytes] at h
 | _::_,[],h=>by simp [Lib.compareBytes] at h
 | a::x,b::y,h=>by
  unfold Lib.compareBytes at h
  split at h
  · simp at h
  · split at h
    · simp at h
    · rename_i h1 aa
      have:a=b:=by
       apply UInt8.le_antisymm
       · exact UInt8.not_lt.1 aa
       · exact UInt8.not_lt.1 h1
      rw [this,cmp_eq h]
theorem Po:∀ (a b:ag),Lib.compareBytes a b=- Lib.compareBytes b a
 | [],[]=>rfl
 | [],_::_=>by simp [Lib.compareBytes]
 | _::_,[]=>by simp [Lib.compareBytes]
 | a::x,b::y=>by
  unfold Lib.compareBytes
  by_cases h1:a < b
  · have aa:¬ b < a:=UInt8.lt_asymm h1
    simp [h1,aa]
  · by_cases aa:b < a
    · simp [h1,aa]
    · simp only [h1,aa,if_false]; exact Po x y
theorem lt_trans:∀ {a b c:ag},mx a b→mx b c→mx a c
 | [],[],_,h,_=>by simp [mx,Lib.compareBytes] at h
 | [],_::_,[],_,h=>by simp [mx,Lib.compareBytes] at h
 | [],_::_,_::_,_,_=>by simp [mx,Lib.compareBytes]
 | _::_,[],_,h,_=>by simp [mx,Lib.compareBytes] at h
 | _::_,_::_,[],_,h=>by simp [mx,Lib.compareBytes] at h
 | a::x,b::y,c::z,h1,aa=>by
  unfold mx Lib.compareBytes at *
  by_cases CG:a < b
  · by_cases y7:b < c
    · simp [UInt8.lt_trans CG y7]
    · by_cases CH:c < b
      · simp [y7,CH] at aa
      · have:b=c:=UInt8.le_antisymm (UInt8.not_lt.1 CH) (UInt8.not_lt.1 y7)
        subst this; simp [CG]
  · by_cases nT:b < a
    · simp [CG,nT] at h1
    · have:a=b:=UInt8.le_antisymm (UInt8.not_lt.1 nT) (UInt8.not_lt.1 CG)
      subst this
      simp only [CG,if_false] at h1
      by_cases y7:a < c
      · simp [y7]
      · by_cases CH:c < a
        · simp [y7,CH] at aa
        · simp only [y7,CH,if_false] at aa ⊢
          exact lt_trans (a:=x) (b:=y) (c:=z) h1 aa
theorem lt_irrefl (a:ag):¬ mx a a:=by unfold mx; rw [FH]; omega
theorem Yp {a b:ag} (h:¬ Lib.compareBytes a b < 0) (aI:a≠b):mx b a:=by
 have h1:=Po b a;have aa:Lib.compareBytes a b≠0:=fun e=>aI (cmp_eq e)
 unfold mx; omega
def p9 (l:List ag):Prop:=l.Pairwise mx
theorem Pp:∀ {l:List ag},rising l=true→p9 l
 | [],_=>List.Pairwise.nil
 | [a],_=>by simp [p9]
 | a::b::r,h=>by
  simp only [rising,Bool.and_eq_true,decide_eq_true_eq] at h
  have bq:=Pp h.2
  refine List.Pairwise.cons (fun x ad=>?_) bq
  rcases List.mem_cons.1 ad with rfl|ad
  · exact h.1
  · exact lt_trans h.1 (List.rel_of_pairwise_cons bq ad)
theorem Pq:∀ {l:List ag},p9 l→rising l=true
 | [],_=>rfl
 | [a],_=>rfl
 | a::b::r,h=>by
  have gx:=List.pairwise_cons.1 h
  simp only [rising,Bool.and_eq_true,decide_eq_true_eq]
  exact ⟨gx.1 b (by simp),Pq gx.2⟩
theorem y8 {l:List ag} (h:eD l=0):l.length≤60∧(∀ w∈l,word w=true)∧p9 l:=by
 unfold eD at h;split at h
 · omega
 · split at h
   · split at h
     · rename_i h1 aa aq;exact ⟨by omega,fun w hw=>List.all_eq_true.1 aa w hw,Pp aq⟩
     · omega
   · omega
end Go.ab
namespace Go.ab
open Go.aA
structure bm where
 rune:Int
 to:Int
 deriving DecidableEq,Repr
def eg (x:bm):List Value:=[.int .i32 x.rune,.int .i64 x.to]
theorem j' (x:bm):(eg x).length=2:=rfl
theorem tB (x:bm):(eg x).all (·.oneCell')=true:=rfl
def fm (s:ag):Nat:=(dec s).1
def kF (s:ag):Nat:=(dec s).2
def cU (s:ag):ag:=s.take (dec s).2
def ee (p:ag) (l:List ag):List ag:=(l.takeWhile fun t=>p.isPrefixOf t).map fun t=>t.drop p.length
def ka (p:ag) (l:List ag):List ag:=l.dropWhile fun t=>p.isPrefixOf t
def y9:Nat→List ag→List (Nat×List ag)
 | 0,_=>[]
 | _+1,[]=>[]
 | n+1,s::r=>(fm s,ee (cU s) (s::r))::y9 n (ka (cU s) (s::r))
def ga (l:List ag):List (Nat×List ag):=y9 l.length l
theorem y_ (s:ag):(cU s).isPrefixOf s=true:=by
 rw [List.isPrefixOf_iff_prefix]; exact List.take_prefix _ _
theorem y' (s:ag) (r:List ag):(ka (cU s) (s::r)).length≤r.length:=by
 unfold ka;rw [List.dropWhile_cons,if_pos (y_ s)];exact (List.dropWhile_suffix _).length_le
theorem Pr:∀ (n m:Nat) (l:List ag),l.length≤n→l.length≤m→y9 n l=y9 m l
 | 0,0,_,_,_=>rfl
 | 0,m+1,l,h,_=>by have:l=[]:=List.eq_nil_of_length_eq_zero (by omega); subst this; rfl
 | n+1,0,l,_,h=>by have:l=[]:=List.eq_nil_of_length_eq_zero (by omega); subst this; rfl
 | n+1,m+1,[],_,_=>rfl
 | n+1,m+1,s::r,h1,aa=>by
  have:=y' s r
  simp only [List.length_cons] at h1 aa
  simp only [y9]
  rw [Pr n m _ (by omega) (by omega)]
theorem za:ga []=[]:=rfl
theorem AU (s:ag) (r:List ag):ga (s::r)=(fm s,ee (cU s) (s::r))::ga (ka (cU s) (s::r)):=by
 have:=y' s r;show y9 (r.length+1) (s::r)=_;simp only [y9];rw [Pr r.length _ _ this (Nat.le_refl _)];rfl
theorem Ps (a b:UInt8) (s t:ag):Lib.compareBytes (a::s) (b::t)=if a < b then -1 else if b < a then 1 else Lib.compareBytes s t:=rfl
theorem Yq (p s t:ag):Lib.compareBytes (p++s) (p++t)=Lib.compareBytes s t:=by
 induction p with
 | nil=>rfl
 | cons a p bq=>simp only [List.cons_append,Ps]; rw [if_neg (by simp),if_neg (by simp),bq]
theorem Pt:∀ (p a b u:ag),Lib.compareBytes (p++a) u < 0→Lib.compareBytes u (p++b) < 0→p.isPrefixOf u=true
 | [],_,_,_,_,_=>rfl
 | x::p,a,b,[],h,_=>by simp [Lib.compareBytes] at h
 | x::p,a,b,y::u,h1,aa=>by
  simp only [List.cons_append,Ps] at h1 aa
  by_cases FI:x < y
  · have:¬ y < x:=UInt8.lt_asymm FI
    rw [if_neg this,if_pos FI] at aa; omega
  · rw [if_neg FI] at h1
    by_cases CI:y < x
    · rw [if_pos CI] at h1; omega
    · have e:x=y:=UInt8.le_antisymm (UInt8.not_lt.1 CI) (UInt8.not_lt.1 FI)
      subst e
      rw [if_neg CI] at h1
      rw [if_neg CI,if_neg CI] at aa
      simp only [List.isPrefixOf,beq_self_eq_true,Bool.true_and]
      exact Pt p a b u h1 aa
structure fD (l:List ag):Prop where
 sorted:p9 l
 my:∀ s∈l,hh s
theorem fD.tail {s:ag} {r:List ag} (h:fD (s::r)):fD r:=⟨(List.pairwise_cons.1 h.sorted).2,fun t aQ=>h.my t (by simp [aQ])⟩
theorem Jo {l m:List ag} (h:p9 l) (aF:m <:+ l):p9 m:=h.sublist aF.sublist
theorem fD.more {l:List ag} (h:fD l) (p:ag):fD (ka p l):=
 ⟨Jo h.sorted (List.dropWhile_suffix _),fun t aQ=>h.my t ((List.dropWhile_suffix _).subset aQ)⟩
theorem FJ {α:Type} {p:α→Bool}:∀ {l:List α} {x:α},x∈l.takeWhile p→p x=true∧x∈l
 | [],x,h=>by simp at h
 | y::l,x,h=>by
  rw [List.takeWhile_cons] at h
  split at h
  · rename_i av
    rcases List.mem_cons.1 h with rfl|h
    · exact ⟨av,by simp⟩
    · exact ⟨(FJ h).1,by simp [(FJ h).2]⟩
  · simp at h
theorem AV {p t:ag} (h:p.isPrefixOf t=true):t=p++t.drop p.length:=by
 rw [List.isPrefixOf_iff_prefix] at h;obtain ⟨u,rfl⟩:=h;simp
theorem Pu {p:ag} {l:List ag} {t:ag} (h:t∈ee p l):p++t∈l:=by
 unfold ee at h;obtain ⟨u,hu,rfl⟩:=List.mem_map.1 h;have:=FJ hu;rw [←AV this.1]; exact this.2
theorem CJ (p:ag) (l:List ag):(ee p l).map (p++·)++ka p l=l:=by
 unfold ee ka;rw [List.map_map]
 have:(l.takeWhile fun t=>p.isPrefixOf t).map ((p++·) ∘ fun t=>t.drop p.length)=l.takeWhile fun t=>p.isPrefixOf t:=by
  conv=>rhs; rw [←List.map_id (l.takeWhile fun t=>p.isPrefixOf t)]
  exact List.map_congr_left fun t aQ=>(AV (FJ aQ).1).symm
 rw [this,List.takeWhile_append_dropWhile]
theorem Yr {s:ag} {r:List ag} (h:fD (s::r)) {p:ag} (hp:p.isPrefixOf s=true):∀ t∈ka p (s::r),p.isPrefixOf t=false:=by
 intro t aQ
 cases U:p.isPrefixOf t with
 | false=>rfl
 | true =>
  exfalso
  have aF:ka p (s::r) <:+ s::r:=List.dropWhile_suffix _
  cases hm:ka p (s::r) with
  | nil=>rw [hm] at aQ; simp at aQ
  | cons u m =>
   have hu:p.isPrefixOf u=false:=by
    have:=List.head?_dropWhile_not (fun t=>p.isPrefixOf t) (s::r)
    unfold ka at hm
    rw [hm] at this
    simpa using this
   rw [hm] at aQ
   have CK:=Jo h.sorted aF
   rw [hm] at CK
   have Ys:u≠s:=fun e=>by rw [e,hp] at hu; cases hu
   have Yt:u∈s::r:=aF.subset (by rw [hm]; simp)
   have h1:mx s u:=by
    rcases List.mem_cons.1 Yt with e|e
    · exact absurd e Ys
    · exact (List.pairwise_cons.1 h.sorted).1 u e
   rcases List.mem_cons.1 aQ with rfl|aQ
   · rw [U] at hu; cases hu
   · have aa:mx u t:=(List.pairwise_cons.1 CK).1 t aQ
     have fw:=AV hp
     have jh:=AV U
     have:=Pt p (s.drop p.length) (t.drop p.length) u (by rw [←fw]; exact h1) (by rw [←jh]; exact aa)
     rw [this] at hu; cases hu
theorem Pv {s:ag} {r:List ag} (h:fD (s::r)) (aF:s≠[]):fD (ee (cU s) (s::r)):=by
 have ps:=(h.my s (by simp)).split aF;have hp:cU s=du (fm s):=(xw aF ((xx aF).1 (h.my s (by simp))).1).2.symm;refine ⟨?_,fun t aQ=>?_⟩
 · have:p9 ((ee (cU s) (s::r)).map (cU s++·)):=h.sorted.sublist (by
    conv=>rhs; rw [←CJ (cU s) (s::r)]
    exact List.sublist_append_left _ _)
   unfold p9 at this ⊢;rw [List.pairwise_map] at this;exact this.imp fun {a b} mz=>by unfold mx at mz ⊢; rwa [Yq] at mz
 · have hm:=h.my _ (Pu aQ);rw [hp] at hm;have aa:=(xx (by simp [Jl]):hh (du (fm s)++t)↔_).1 hm;have e:=Jk ps.1 t;unfold fm at aa;rw [e] at aa;simpa using aa.2
structure Yu (l:List ag) (gs:List (Nat×List ag)):Prop where
 all:gs.flatMap (fun g=>g.2.map (du g.1++·))=l
 eQ:∀ g∈gs,jt g.1∧g.2≠[]∧fD g.2
 part:gs.Pairwise fun a b=>a.1≠b.1
theorem wa:∀ (n:Nat) (l:List ag),l.length≤n→fD l→(∀ s∈l,s≠[])→Yu l (ga l)
 | _,[],_,_,_=>⟨rfl,by simp [za],by simp [za]⟩
 | 0,s::r,h,_,_=>by simp at h
 | n+1,s::r,aI,h,cA=>by
  have a':=y' s r
  simp only [List.length_cons] at aI
  have aF:=cA s (by simp)
  have bd:=h.my s (by simp)
  have ps:=bd.split aF
  have hp:cU s=du (fm s):=(xw aF ((xx aF).1 bd).1).2.symm
  have bq:=wa n (ka (cU s) (s::r)) (by omega) (h.more _) (fun t aQ=>cA t ((List.dropWhile_suffix _).subset aQ))
  rw [AU]
  refine ⟨?_,?_,?_⟩
  · simp only [List.flatMap_cons]
    rw [bq.all,←hp,CJ]
  · intro g aO
    rcases List.mem_cons.1 aO with rfl|aO
    · refine ⟨ps.1,?_,Pv h aF⟩
      unfold ee
      rw [List.takeWhile_cons,if_pos (y_ s)]; simp
    · exact bq.eQ g aO
  · refine List.pairwise_cons.2 ⟨fun g aO e=>?_,bq.part⟩
    have Yv:=bq.eQ g aO
    obtain ⟨t,aQ⟩:∃ t,t∈g.2:=by
     cases eA:g.2 with
     | nil=>exact absurd eA Yv.2.1
     | cons t _=>exact ⟨t,by simp⟩
    have hm:du g.1++t∈ka (cU s) (s::r):=by
     rw [←bq.all]
     exact List.mem_flatMap.2 ⟨g,aO,List.mem_map.2 ⟨t,aQ,rfl⟩⟩
    have:=Yr h (y_ s) _ hm
    rw [hp,←e] at this
    have Yw:(du (fm s)).isPrefixOf (du (fm s)++t)=true:=by rw [List.isPrefixOf_iff_prefix]; exact List.prefix_append _ _
    simp only at this
    rw [Yw] at this; cases this
abbrev ch:=List (List ag×List bm)
def eZ:List ag→List ag
 | []::r=>r
 | l=>l
def kt (add:ch→List ag→ch×Nat):ch→List (Nat×List ag)→ch×List bm
 | s,[]=>(s,[])
 | s,g::gs=>((kt add (add s g.2).1 gs).1,⟨(g.1:Int),((add s g.2).2:Int)⟩::(kt add (add s g.2).1 gs).2)
def eh:Nat→ch→List ag→ch×Nat
 | 0,s,_=>(s,0)
 | f+1,s,ay =>
  match s.findIdx? fun x=>x.1==ay with
  | some i=>(s,i)
  | none=>((kt (eh f) (s++[(ay,[])]) (ga (eZ ay))).1.set s.length (ay,(kt (eh f) (s++[(ay,[])]) (ga (eZ ay))).2),s.length)
def rP (words:List ag):ch:=(eh 13 [] words).1
def nq (s:ch) (x:List ag×List bm):Prop:=cx (fun g e=>e.rune=(g.1:Int)∧∃ (j:Nat) (es:List bm),e.to=(j:Int)∧s[j]?=some (g.2,es)) (ga (eZ x.1)) x.2
def Deep (n:Nat) (l:List ag):Prop:=∀ t∈l,(gj t).length≤n
structure zb (s:ch) (n:Nat) (x:List ag×List bm):Prop where
 u3:nq s x
 eQ:fD x.1
 ne:x.1≠[]
 deep:Deep n x.1
def names (s:ch):List (List ag):=s.map Prod.fst
theorem Yx {s:ch} {r:List ag} {i:Nat} (h:(s.findIdx? fun x=>x.1==r)=some i):∃ es,s[i]?=some (r,es):=by
 obtain ⟨h1,aa,_⟩:=List.findIdx?_eq_some_iff_getElem.1 h;refine ⟨s[i].2,?_⟩;rw [List.getElem?_eq_getElem h1];have:s[i].1=r:=by simpa using aa
 rw [←this]
theorem Jp {s:ch} {r:List ag} (h:(s.findIdx? fun x=>x.1==r)=none):r∉names s:=by
 intro hm;obtain ⟨x,ad,rfl⟩:=List.mem_map.1 hm;have:=List.findIdx?_eq_none_iff.1 h x ad;simp at this
theorem tC {l:List ag} (h:fD l):fD (eZ l)∧(∀ s∈eZ l,s≠[]):=by
 cases l with
 | nil=>exact ⟨h,by simp [eZ]⟩
 | cons a r =>
  cases a with
  | nil =>
   refine ⟨h.tail,fun s aF e=>?_⟩
   have:=(List.pairwise_cons.1 h.sorted).1 s aF
   subst e
   exact lt_irrefl _ this
  | cons x a =>
   refine ⟨h,fun s aF e=>?_⟩
   subst e
   rcases List.mem_cons.1 aF with e|aF
   · cases e
   · have:=(List.pairwise_cons.1 h.sorted).1 _ aF
     simp [mx,Lib.compareBytes] at this
theorem zc {l:List ag} {t:ag} (h:t∈eZ l):t∈l:=by
 cases l with
 | nil=>exact h
 | cons a r =>
  cases a with
  | nil=>exact List.mem_cons_of_mem _ h
  | cons x a=>exact h
theorem Pw {n:Nat} {l:List ag} (aO:fD l) (h:Deep (n+1) l):∀ g∈ga (eZ l),Deep n g.2:=by
 intro g hI t aQ;have hd:=tC aO;have ok:=wa _ _ (Nat.le_refl _) hd.1 hd.2
 have hm:du g.1++t∈eZ l:=by
  rw [←ok.all]
  exact List.mem_flatMap.2 ⟨g,hI,List.mem_map.2 ⟨t,aQ,rfl⟩⟩
 have:=h _ (zc hm);rw [u2 (ok.eQ g hI).1] at this;simp only [List.length_cons] at this;omega
theorem nq.grow {s iz:ch} {x:List ag×List bm} (h:nq s x) (aF:∀ (j:Nat) (r:List ag) (es:List bm),s[j]?=some (r,es)→∃ p_,iz[j]?=some (r,p_)):nq iz x:=
 cx.imp (fun g e ⟨h1,j,es,aa,aq⟩=>⟨h1,j,(aF j _ _ aq).choose,aa,(aF j _ _ aq).choose_spec⟩) h
theorem zb.grow {s iz:ch} {n m:Nat} {x:List ag×List bm} (h:zb s n x) (aF:∀ (j:Nat) (r:List ag) (es:List bm),s[j]?=some (r,es)→∃ p_,iz[j]?=some (r,p_)) (hm:n≤m):zb iz m x:=
 ⟨h.u3.grow aF,h.eQ,h.ne,fun t aQ=>Nat.le_trans (h.deep t aQ) hm⟩
theorem Yy (s t:ch):∀ (j:Nat) (r:List ag) (es:List bm),s[j]?=some (r,es)→∃ p_,(s++t)[j]?=some (r,p_):=fun j r es h=>⟨es,by rw [List.getElem?_append_left (List.getElem?_eq_some_iff.1 h).1]; exact h⟩
structure Px (n:Nat) (s:ch) (ay:List ag) (q:ch×Nat):Prop where
 tail:∃ t,q.1=s++t∧∀ x∈t,zb q.1 n x
 here:∃ es,q.1[q.2]?=some (ay,es)
 apart:(names q.1).Nodup
structure Py (n:Nat) (s:ch) (gs:List (Nat×List ag)) (q:ch×List bm):Prop where
 tail:∃ t,q.1=s++t∧∀ x∈t,zb q.1 n x
 xy:cx (fun g e=>e.rune=((g.1:Nat):Int)∧∃ (j:Nat) (es:List bm),e.to=(j:Int)∧q.1[j]?=some (g.2,es)) gs q.2
 apart:(names q.1).Nodup
theorem Pz {n:Nat} {add:ch→List ag→ch×Nat}:∀ (gs:List (Nat×List ag)) (s:ch),(∀ g∈gs,∀ s,(names s).Nodup→Px n s g.2 (add s g.2))→(names s).Nodup→Py n s gs (kt add s gs)
 | [],s,_,hd=>⟨⟨[],by simp [kt],by simp⟩,.nil,hd⟩
 | g::gs,s,PA,hd=>by
  have h1:=PA g (by simp) s hd
  have aa:=Pz gs (add s g.2).1 (fun e' rQ=>PA e' (by simp [rQ])) h1.apart
  obtain ⟨t1,fw,bw⟩:=h1.tail
  obtain ⟨t2,jh,cB⟩:=aa.tail
  refine ⟨⟨t1++t2,?_,?_⟩,?_,aa.apart⟩
  · show (kt add (add s g.2).1 gs).1=_
    rw [jh,fw,List.append_assoc]
  · intro x ad
    show zb (kt add (add s g.2).1 gs).1 n x
    rcases List.mem_append.1 ad with ad|ad
    · rw [jh]
      exact (bw x ad).grow (Yy _ _) (Nat.le_refl _)
    · exact cB x ad
  · refine .cons ⟨rfl,(add s g.2).2,?_⟩ aa.xy
    obtain ⟨es,he⟩:=h1.here
    refine ⟨es,rfl,?_⟩
    show (kt add (add s g.2).1 gs).1[_]?=_
    rw [jh,List.getElem?_append_left (List.getElem?_eq_some_iff.1 he).1]; exact he
theorem Yz {s:ch} {i:Nat} {r:List ag} {es p_:List bm} (h:s[i]?=some (r,es)):names (s.set i (r,p_))=names s:=by
 unfold names;rw [List.map_set];refine List.ext_getElem? fun j=>?_
 rw [List.getElem?_set];split
 · rename_i l5;subst l5;have gE:=(List.getElem?_eq_some_iff.1 h).1;rw [if_pos (by simpa using gE),List.getElem?_map,h]; rfl
 · rfl
theorem zd:∀ (f:Nat) (s:ch) (ay:List ag),Deep f ay→fD ay→ay≠[]→(names s).Nodup→Px f s ay (eh (f+1) s ay)
 | f,s,ay,hd,aO,cA,aI=>by
  unfold eh
  cases al:s.findIdx? fun x=>x.1==ay with
  | some i=>exact ⟨⟨[],by simp,by simp⟩,Yx al,aI⟩
  | none =>
   simp only
   have ho:=Jp al
   have nU:(names (s++[(ay,[])])).Nodup:=by
    unfold names
    rw [List.map_append,List.nodup_append]
    refine ⟨aI,by simp,fun a ao b U=>?_⟩
    simp only [List.map_cons,List.map_nil,List.mem_singleton] at U
    subst U
    exact fun e=>ho (by rw [←e]; exact ao)
   have ze:=tC aO
   have ok:=wa _ _ (Nat.le_refl _) ze.1 ze.2
   have FK:Py (f-1) (s++[(ay,[])]) (ga (eZ ay)) (kt (eh f) (s++[(ay,[])]) (ga (eZ ay))):=by
    refine Pz _ _ (fun g hI iz yV=>?_) nU
    cases f with
    | zero =>
     exfalso
     obtain ⟨t,aQ⟩:∃ t,t∈g.2:=by
      cases eA:g.2 with
      | nil=>exact absurd eA (ok.eQ g hI).2.1
      | cons t _=>exact ⟨t,by simp⟩
     have hm:du g.1++t∈eZ ay:=by
      rw [←ok.all]
      exact List.mem_flatMap.2 ⟨g,hI,List.mem_map.2 ⟨t,aQ,rfl⟩⟩
     have:=hd _ (zc hm)
     rw [u2 (ok.eQ g hI).1] at this
     simp at this
    | succ f =>
     have h1:=zd f iz g.2 (Pw aO hd g hI) (ok.eQ g hI).2.2 (ok.eQ g hI).2.1 yV
     exact h1
   generalize kt (eh f) (s++[(ay,[])]) (ga (eZ ay))=q at FK
   obtain ⟨t,fw,bw⟩:=FK.tail
   have ou:q.1[s.length]?=some (ay,[]):=by rw [fw]; simp
   have YA:q.1.set s.length (ay,q.2)=s++(ay,q.2)::t:=by
    rw [fw,List.append_assoc,List.set_append_right _ _ (Nat.le_refl _)]
    simp
   have ox:∀ (j:Nat) (r:List ag) (es:List bm),q.1[j]?=some (r,es)→∃ p_,(q.1.set s.length (ay,q.2))[j]?=some (r,p_):=by
    intro j r es aS
    by_cases mM:s.length=j
    · subst mM
      rw [ou] at aS
      simp only [Option.some.injEq,Prod.mk.injEq] at aS
      refine ⟨q.2,?_⟩
      rw [List.getElem?_set_self (List.getElem?_eq_some_iff.1 ou).1,aS.1]
    · exact ⟨es,by rw [List.getElem?_set_ne mM]; exact aS⟩
   refine ⟨⟨(ay,q.2)::t,YA,fun x ad=>?_⟩,⟨q.2,?_⟩,?_⟩
   · rcases List.mem_cons.1 ad with rfl|ad
     · refine ⟨?_,aO,cA,hd⟩
       exact cx.imp (fun g e ⟨h1,j,es,aa,aq⟩=>⟨h1,j,(ox j _ _ aq).choose,aa,(ox j _ _ aq).choose_spec⟩) FK.xy
     · exact (bw x ad).grow ox (by omega)
   · show (q.1.set s.length (ay,q.2))[s.length]?=_
     rw [List.getElem?_set_self (List.getElem?_eq_some_iff.1 ou).1]
   · show (names (q.1.set s.length (ay,q.2))).Nodup
     rw [Yz ou]; exact FK.apart
structure PB (s:ch) (words:List ag):Prop where
 root:∃ es,s[0]?=some (words,es)
 node:∀ x∈s,zb s 12 x
 apart:(names s).Nodup
theorem AW {words:List ag} (hd:Deep 12 words) (aO:fD words) (cA:words≠[]):PB (rP words) words:=by
 have h:=zd 12 [] words hd aO cA (by simp [names]);obtain ⟨t,e,k⟩:=h.tail
 have rR:(eh 13 [] words).2=0:=by
  unfold eh; simp
 refine ⟨?_,fun x ad=>?_,h.apart⟩
 · have:=h.here;rw [rR] at this; exact this
 · unfold rP at ad ⊢;rw [e] at ad;exact k x (by simpa using ad)
theorem rS {l:List ag} (h:eD l=0):fD l∧Deep 12 l:=by
 have hw:=y8 h;exact ⟨⟨hw.2.2,fun s aF=>(Jn (hw.2.1 s aF)).1⟩,fun s aF=>(Jn (hw.2.1 s aF)).2.2⟩
end Go.ab
namespace Go.aA
open Go
section
variable {α:Type} {enc:α→List Value} {e:TypeId} {sz:Nat} {w:World} {g:Nat} {v:Value} {l:List α}
theorem PC (dr:∀ x,(enc x).length=sz):∀ (l:List α) (i:Nat) (x:α) (h:i < l.length),(l.set i x).flatMap enc=(l.flatMap enc).take (i*sz)++enc x++(l.flatMap enc).drop (i*sz+sz)
 | y::l,0,x,_=>by
  have fw:(enc y++l.flatMap enc).drop sz=l.flatMap enc:=by rw [←dr y]; exact List.drop_left
  simp only [List.set_cons_zero,List.flatMap_cons,Nat.zero_mul,List.take_zero,List.nil_append,Nat.zero_add,fw]
 | y::l,i+1,x,h=>by
  have bq:=PC dr l i x (by simpa using h)
  have fw:(i+1)*sz=(enc y).length+i*sz:=by rw [dr,Nat.add_mul]; omega
  have jh:(i+1)*sz+sz=(enc y).length+(i*sz+sz):=by rw [fw,Nat.add_assoc]
  simp only [List.set_cons_succ,List.flatMap_cons]
  rw [fw,Nat.add_assoc,List.take_append,List.drop_append,List.take_of_length_le (by omega),List.drop_of_length_le (by omega),Nat.add_sub_cancel_left,Nat.add_sub_cancel_left,bq]
  simp
theorem Acc.at (h:Acc enc e sz w g v l) {P:Program} {t:TypeId} {by_:Nat} {fv:Bool} {z:List Value} (aQ:P.underlying t=some (.slice e)) (he:dX P e=some (fv,sz,by_,z)) {k:IntKind} {n:Int} (i:Nat) (aI:n=(i:Int)) (al:i < l.length) :
 (∀ w,(Instr.indexAt t v (.int k n)).run P w=.ok (ptr (g-1) (i*sz)) w)∧∃ x,l[i]?=some x:=by
 rcases h with ⟨_,rfl,_⟩|⟨b,cap,cur,rfl,rfl,aa,aq,a6,bT,ed⟩
 · simp at al
 · refine ⟨fun w=>?_,l[i],by simp [al]⟩;have a8:(0:Int)≤n∧n < (l.length:Int):=(by omega);have fw:n.toNat=i:=(by omega);simp [Instr.indexAt,asIntOf,run_underlying aQ,a8,run_sizeOf he,add_lit,ptr,fw]
theorem gl.rT {P:Program} {E:Env} {d:Option Tmp} {ty:TypeId} {pos:String} {af:Array Edge} {gd:Option (Nat×Bool)} {K:Value→World→Prop} {t:TypeId} {x y:Operand} {u:Value} {off n by_:Nat} {fv:Bool} {z vs:List Value}
 (h:Acc enc e sz w g v l) (dr:∀ x,(enc x).length=sz) {i o:Nat} {nk:α} (hold:l[i]?=some nk) (zf:α) (aQ:dX P t=some (fv,n,by_,z)) (ad:aC E x=some (ptr (g-1) off)) (FL:off=i*sz+o) (av:aC E y=some u)
 (bG:u.cells.toList=vs) (aI:vs.length=n) (h1:vs.all (·.oneCell')=true) (dJ:o+n≤sz) (YB:enc zf=(enc nk).take o++vs++(enc nk).drop (o+n))
 (eC:∀ ah,Mod (b5 g) w ah→ah.heap.size=w.heap.size→Acc enc e sz ah g v (l.set i zf)→K undef ah):gl P ⟨d,.store t x y,ty,pos,af,gd⟩ E w K:=fun a ao=>by
 obtain ⟨al,rfl⟩:=List.getElem?_eq_some_iff.1 hold
 subst FL
 rcases h with ⟨_,rfl,_⟩|⟨b,cap,cur,rfl,rfl,aa,aq,a6,bT,ed⟩
 · simp at al
 · have uR:=ts dr l
   have pn:i*sz+sz≤l.length*sz:=by
    have:=Nat.mul_le_mul_right sz (show i+1≤l.length by omega)
    rw [Nat.add_mul] at this; omega
   have aki:l.length*sz≤cap*sz:=Nat.mul_le_mul_right _ aq
   simp only [Nat.add_sub_cancel] at ad
   have lk:=run_storeCells_at P b (i*sz+o) e vs 0 cur w aa (by omega) (fun u hu=>List.all_eq_true.1 h1 u hu)
   have YC:u.cells.size=n:=by rw [←Array.length_toList,bG]; exact aI
   have key:=PC dr l i zf al
   have Fp:=(Fg dr l i al).1
   have h:=eC (w.setRow b (cur.toList.take (i*sz+o)++vs++cur.toList.drop (i*sz+o+n)).toArray) ((Fh _ _ _).weaken (fun i al _=>by unfold b5; omega)) (by simp [World.setRow]) (.inr ⟨b,cap,_,rfl,by simp,setRow_heap w b cur _ e (0,0) aa,by simpa using aq,a6,by simp; omega,by
    rw [List.length_set,key,YB]
    have eG:cur.toList.length=cap*sz:=by simpa using bT
    have fw:(l.flatMap enc).take (i*sz)=cur.toList.take (i*sz):=by
     rw [←ed,List.take_take,Nat.min_eq_left (by omega)]
    have jh:(enc l[i]).take o=(cur.toList.drop (i*sz)).take o:=by
     rw [←Fp,List.take_take,Nat.min_eq_left (by omega),←ed,List.drop_take,List.take_take,Nat.min_eq_left (by omega)]
    have uU:(enc l[i]).drop (o+n)=(cur.toList.drop (i*sz+(o+n))).take (sz-(o+n)):=by
     rw [←Fp,←ed,List.drop_take,List.drop_drop,List.drop_take,List.take_take,Nat.min_eq_left (by omega)]
    have Jq:(l.flatMap enc).drop (i*sz+sz)=(cur.toList.drop (i*sz+sz)).take (l.length*sz-(i*sz+sz)):=by
     rw [←ed,List.drop_take]
    rw [fw,jh,uU,Jq]
    have Jr:cur.toList.take (i*sz+o)=cur.toList.take (i*sz)++(cur.toList.drop (i*sz)).take o:=by rw [List.take_add]
    have Js:(cur.toList.drop (i*sz+o+n)).take (l.length*sz-(i*sz+o+n))=(cur.toList.drop (i*sz+(o+n))).take (sz-(o+n))++(cur.toList.drop (i*sz+sz)).take (l.length*sz-(i*sz+sz)):=by
     have:l.length*sz-(i*sz+o+n)=(sz-(o+n))+(l.length*sz-(i*sz+sz)):=by omega
     rw [this,List.take_add,List.drop_drop]
     congr 3<;>omega
    rw [List.toList_toArray]
    rw [List.take_append,List.take_of_length_le (by simp; omega)]
    have Jt:l.length*sz-(cur.toList.take (i*sz+o)++vs).length=l.length*sz-(i*sz+o+n):=by
     simp only [List.length_append,List.length_take,eG]; omega
    rw [Jt,Js,Jr]
    simp only [List.append_assoc]⟩)
   simp only [Nat.add_zero,aI] at lk
   simp [execOp,ao.aC ad,ao.aC av,ptr,Instr.storeAt,Instr.sureAddr,storeVar,run_sizeOf aQ,YC,bG,lk,out]
   simpa using h
theorem Acc.shape (h:Acc enc e sz w g v l):∃ a c,v=.slice a l.length c:=by
 obtain ⟨a,c,h1,_⟩:=h.bl;exact ⟨a,c,h1⟩
theorem Acc.cast {kE:List α} (h:Acc enc e sz w g v l) (nN:l=kE):Acc enc e sz w g v kE:=nN▸h
theorem PD (z:List Value) (b':0 < z.length):∀ n:Nat,(madeCells z.toArray (n*z.length)).toList=(List.replicate n z).flatten
 | 0=>by simp [madeCells]
 | n+1=>by
  have bq:=PD z b' n
  rw [List.replicate_succ',List.flatten_append,←bq]
  unfold madeCells
  simp only [List.size_toArray,Array.toList_map,Array.toList_range,Nat.add_mul,Nat.one_mul,List.flatten_cons,List.flatten_nil,List.append_nil]
  rw [List.range_add,List.map_append]
  congr 1
  rw [List.map_map]
  refine List.ext_getElem (by simp) fun i h1 aa=>?_
  simp only [List.length_map,List.length_range] at h1
  simp [Nat.mod_eq_of_lt h1,h1]
theorem gl.makeSlice {P:Program} {E:Env} {d:Option Tmp} {ty:TypeId} {pos:String} {af:Array Edge} {gd:Option (Nat×Bool)} {K:Value→World→Prop} {t:TypeId} {x y:Operand} {PE FM:IntKind} {by_:Nat} {fv:Bool} {z:List Value}
 (n:Nat) (AX:α) (aQ:P.underlying t=some (.slice e)) (he:dX P e=some (fv,sz,by_,z)) (a8:0 < sz) (xz:enc AX=z) (dr:∀ x,(enc x).length=sz) {p q:Int} (ad:aC E x=some (.int PE p)) (av:aC E y=some (.int FM q)) (hp:p=(n:Int)) (dL:q=(n:Int)) (U:n*by_≤140737488355328) (hm:n≤maxLen)
 (eC:∀ g_ e' ah,Ext w ah→e'=w.heap.size+1→ah.heap.size=w.heap.size+1→Acc enc e sz ah e' g_ (List.replicate n AX)→K g_ ah) :
 gl P ⟨d,.makeSlice t x y,ty,pos,af,gd⟩ E w K:=fun a ao=>by
 subst hp dL
 obtain ⟨i,hG,js,p5,i2,i3,i4,i5,Cu,Ow⟩:=AI he
 have CL:(n:Int)≤9223372036854775807:=by have:n≤9223372036854775807:=hm; omega
 have PF:(i.bytes:Int)*(n:Int)≤281474976710656:=by
  rw [i5]
  have:((n*by_:Nat):Int)≤140737488355328:=by omega
  rw [Int.natCast_mul,Int.mul_comm] at this; omega
 have aB:=run_make (P:=P) w t e i js aQ p5 i3 PE FM (n:Int) (n:Int) (by omega) (Int.le_refl _) PF CL
 simp only [Int.toNat_natCast] at aB
 have xd:z.length=sz:=by rw [←xz]; exact dr _
 have fw:js.cells=z.toArray:=by rw [←Cu]
 have an:(madeCells js.cells (n*i.size)).toList=(List.replicate n z).flatten:=by
  rw [fw,i4,←xd]; exact PD z (by omega) n
 have h:=eC _ _ (w.alloc (.cells (madeCells js.cells (n*i.size)) e)) (Mod.alloc _ _ _) rfl (by simp) (.inr ⟨w.heap.size,n,_,rfl,rfl,heap_alloc_new w _,by simp,hm,by rw [size_madeCells,i4],by
  rw [List.length_replicate,an]
  have:(List.replicate n z).flatten=(List.replicate n AX).flatMap enc:=by
   rw [List.flatMap_def,List.map_replicate,xz]
  rw [this,List.take_of_length_le]
  rw [ts dr,List.length_replicate]; exact Nat.le_refl _⟩)
 simp only [List.length_replicate] at h
 simp [execOp,ao.aC ad,ao.aC av,aB,out]
 exact h
section
variable {P:Program} {E:Env} {d:Option Tmp} {ty:TypeId} {pos:String} {af:Array Edge} {gd:Option (Nat×Bool)} {K:Value→World→Prop} {t:TypeId} {x y:Operand} {by_:Nat} {fv:Bool} {z:List Value}
theorem akj.at {b:Nat} (k:IntKind) (nl n:Nat) (aQ:P.underlying t=some (.slice e)) (he:dX P e=some (fv,sz,by_,z)) {p:Int} (i:Nat) (hp:p=(i:Int)) (al:i < n):∀ w,(Instr.indexAt t (.slice (some ⟨b,nl*sz,none⟩) n n) (.int k p)).run P w=.ok (ptr b (nl*sz+i*sz)) w:=fun w=>by
 have a8:(0:Int)≤p∧p < (n:Int):=by omega
 have fw:p.toNat=i:=by omega
 simp [Instr.indexAt,asIntOf,run_underlying aQ,a8,run_sizeOf he,add_lit,ptr,fw]
end
end
end Go.aA
set_option linter.unusedSectionVars false
namespace Go.aA
open Go
section
variable {P:Program} {E:Env} {C:World→Prop} {d:Option Tmp} {ty:TypeId} {pos:String} {af:Array Edge} {gd:Option (Nat×Bool)} {w:World} {K:Value→World→Prop}
theorem PG (op:BinOp) (t:TypeId) (x y:Operand) (w:World) (a b:Option Addr):(eqGuard op t x y (.pointer a) (.pointer b)).run P w=.ok () w:=by
 unfold eqGuard; split<;>simp
theorem aY.nr {xt yt e:TypeId} {x y:Operand} {a:Option Addr} (hu:P.underlying xt=some (.pointer e)) (ad:aC E x=some (.pointer a)) (av:aC E y=some (.pointer none)):aY P ⟨d,.binOp .eql xt x y yt,ty,pos,af,gd⟩ E C (.bool a.isNone):=fun s ao w _=>by
 have h:(Op.equal xt (.pointer a) (.pointer none)).run P w=.ok a.isNone w:=by
  have key:∀ n,(Op.equalIn (n+1) xt (.pointer a) (.pointer none)).run P w=.ok a.isNone w:=fun n=>by
   cases a<;>simp [Op.equalIn,run_underlying hu]
  exact key 9999
 simp [execOp,ao.aC ad,ao.aC av,PG,Go.binOp,h]
theorem aY.FN {xt yt e:TypeId} {x y:Operand} {a:Option Addr} (hu:P.underlying xt=some (.pointer e)) (ad:aC E x=some (.pointer a)) (av:aC E y=some (.pointer none)):aY P ⟨d,.binOp .neq xt x y yt,ty,pos,af,gd⟩ E C (.bool (!a.isNone)):=fun s ao w _=>by
 have h:(Op.equal xt (.pointer a) (.pointer none)).run P w=.ok a.isNone w:=by
  have key:∀ n,(Op.equalIn (n+1) xt (.pointer a) (.pointer none)).run P w=.ok a.isNone w:=fun n=>by
   cases a<;>simp [Op.equalIn,run_underlying hu]
  exact key 9999
 simp [execOp,ao.aC ad,ao.aC av,PG,Go.binOp,h]
theorem aY.YD {x:Operand} {b off:Nat} (ad:aC E x=some (ptr b off)):aY P ⟨d,.nilCheck x,ty,pos,af,gd⟩ E C (ptr b off):=fun a ao w _=>by
 simp [execOp,ao.aC ad,ptr]
theorem aY.CM {xt yt:TypeId} {x y:Operand} {xs ys:Array Value} {q:Bool} (aO:P.eqGuardType P.depth xt=false) (dL:∀ w,(Op.equalIn 10000 xt (.agg xs) (.agg ys)).run P w=.ok q w) (ad:aC E x=some (.agg xs)) (av:aC E y=some (.agg ys)):aY P ⟨d,.binOp .eql xt x y yt,ty,pos,af,gd⟩ E C (.bool q):=fun a ao w _=>by
 simp [execOp,ao.aC ad,ao.aC av,run_eqGuard_agg _ _ _ _ _ _ _ aO,run_eql_struct,dL w,Result.andThen]
theorem aY.PH {xt yt:TypeId} {x y:Operand} {xs ys:Array Value} {q:Bool} (aO:P.eqGuardType P.depth xt=false) (dL:∀ w,(Op.equalIn 10000 xt (.agg xs) (.agg ys)).run P w=.ok q w) (ad:aC E x=some (.agg xs)) (av:aC E y=some (.agg ys)):aY P ⟨d,.binOp .neq xt x y yt,ty,pos,af,gd⟩ E C (.bool (!q)):=fun a ao w _=>by
 simp [execOp,ao.aC ad,ao.aC av,run_eqGuard_agg _ _ _ _ _ _ _ aO,run_neq_struct,dL w,Result.andThen]
theorem aY.field {xt:TypeId} {x:Operand} {i:Nat} {vs:Array Value} {v:Value} (ad:aC E x=some (.agg vs)) (aB:∀ w,(Instr.field xt (.agg vs) i).run P w=.ok v w):aY P ⟨d,.field xt x i,ty,pos,af,gd⟩ E C v:=fun a ao w _=>by
 simp [execOp,ao.aC ad,aB w]
theorem aY.makeFunc {fn:Fn} {j_ cs:Array Operand} {first cap:List Value} (h1:pj E j_.toList=some first) (aa:pj E cs.toList=some cap):aY P ⟨d,.makeFunc fn j_ cs,ty,pos,af,gd⟩ E C (.func fn first.toArray cap.toArray):=fun a ao w _=>by
 have fw:j_.map a.eval=first.toArray:=by
  apply Array.ext'; simpa using ao.pj h1
 have jh:cs.map a.eval=cap.toArray:=by
  apply Array.ext'; simpa using ao.pj aa
 simp [execOp,Instr.makeFunc,fw,jh]
section
variable {α β:Type} [DecidableEq α] {key:α→Value} {val:β→Value} {kind:TypeDesc}
def lO (key:α→Value) (val:β→Value) (w:World) (b:Nat) (m:List (α×β)):Prop:=
 ∃ es clock,w.heap[b]?=some (.map es clock)∧es.toList.map (fun e=>(e.key,e.val))=m.map fun p=>(key p.1,val p.2)
theorem lO.ext {ah:World} {b:Nat} {m:List (α×β)} (h:lO key val w b m) (hm:Ext w ah):lO key val ah b m:=by
 obtain ⟨es,c,h1,aa⟩:=h;exact ⟨es,c,hm.keep _ _ h1 (fun x=>x),aa⟩
theorem lO.lt {b:Nat} {m:List (α×β)} (h:lO key val w b m):b < w.heap.size:=by
 obtain ⟨es,c,h1,aa⟩:=h;exact (Array.getElem?_eq_some_iff.1 h1).1
def fH (m:List (α×β)) (a:α):Option β:=(m.find? fun p=>decide (p.1=a)).map Prod.snd
theorem PI (aF:∀ a b:α,Instr.sameNow kind (key a) (key b)=some (decide (a=b))) (a:α):∀ (es:List MapEntry) (m:List (α×β)) (i:Nat),es.map (fun e=>(e.key,e.val))=m.map (fun p=>(key p.1,val p.2)) →
 ∃ j,Instr.findNow kind (key a) es i=some ((fH m a).map fun x=>(j,val x))
 | [],m,i,h=>by
  cases m with
  | nil=>exact ⟨0,rfl⟩
  | cons _ _=>simp at h
 | e::es,m,i,h=>by
  cases m with
  | nil=>simp at h
  | cons p m =>
   simp only [List.map_cons,List.cons.injEq,Prod.mk.injEq] at h
   obtain ⟨⟨h1,aa⟩,aq⟩:=h
   unfold Instr.findNow
   rw [h1,aF a p.1]
   by_cases hp:a=p.1
   · refine ⟨i,?_⟩
     simp [hp,fH,aa]
   · obtain ⟨j,aS⟩:=PI aF a es m (i+1) aq
     refine ⟨j,?_⟩
     have zg:¬ (p.1=a):=fun e=>hp e.symm
     simp only [decide_eq_false hp,aS,fH,List.find?_cons,decide_eq_false zg]
structure KeyOk (P:Program) (ei:TypeId) (key:α→Value):Prop where
 pt:∀ (e:Bool) (a:α) (w:World),(Instr.checkKey e 10000 ei (key a)).run P w=.ok () w
 same:∃ kind,P.underlying ei=some kind∧∀ a b:α,Instr.sameNow kind (key a) (key b)=some (decide (a=b))
theorem Ju {ei:TypeId} (h:P.underlying ei=some .string):KeyOk P ei aH:=⟨fun e a w=>by
 unfold Instr.checkKey; simp [run_underlying h,aH],⟨_,h,fun a b=>by
 simp only [aH,Instr.sameNow,Option.some.injEq]
 rw [beq_toListBytes,toList_mk,toList_mk]
 by_cases mz:a=b<;>simp [mz]⟩⟩
def fo (n:Int):Value:=.int .i64 n
theorem tD {ei:TypeId} (h:P.underlying ei=some (.int .i64)):KeyOk P ei fo:=⟨fun e a w=>by
 unfold Instr.checkKey; simp [run_underlying h,fo],⟨_,h,fun a b=>by
 simp only [fo,Instr.sameNow,Option.some.injEq,if_true]
 by_cases mz:a=b<;>simp [mz]⟩⟩
theorem run_findKey {ei:TypeId} (hk:KeyOk P ei key) (a:α) {es:List MapEntry} {m:List (α×β)} (h:es.map (fun e=>(e.key,e.val))=m.map (fun p=>(key p.1,val p.2))) (w:World) :
 ∃ j,(Instr.findKey ei (key a) es).run P w=.ok ((fH m a).map fun x=>(j,val x)) w:=by
 obtain ⟨kind,hu,aF⟩:=hk.same;obtain ⟨j,aS⟩:=PI aF a es m 0 h;refine ⟨j,?_⟩;unfold Instr.findKey;simp only [Sem.run_bind,run_underlying hu,Result.andThen_ok,aS,Sem.run_pure]
theorem xA {b:Nat} {es:Array MapEntry} {c:Nat} (h:w.heap[b]?=some (.map es c)):(getObj b).run P w=.ok (.map es c) w:=by
 simp [getObj,Sem.run,h]
theorem aY.PJ {t ei h7:TypeId} {g:Bool} {n by_:Nat} {x y:Operand} {b:Nat} {m:List (α×β)} {a:α} {z:Value} (hk:KeyOk P ei key) (aQ:P.underlying t=some (.map ei h7)) (b':∀ w,(zeroValue h7).run P w=.ok z w) (ad:aC E x=some (.map (some b))) (av:aC E y=some (key a)) (hm:∀ w,C w→lO key val w b m) :
 aY P ⟨d,.lookup t x y true,ty,pos,af,gd⟩ E C (.tuple #[(match fH m a with|some u=>val u|none=>z),.bool (fH m a).isSome]):=fun s ao w hC=>by
 obtain ⟨es,c,h1,aa⟩:=hm w hC
 obtain ⟨j,aS⟩:=run_findKey (P:=P) hk a aa w
 have aO:=xA (P:=P) h1
 cases an:fH m a with
 | none =>
  rw [an] at aS
  simp [execOp,ao.aC ad,ao.aC av,Instr.lookup,run_underlying aQ,aO,hk.pt,aS,b']
 | some u =>
  rw [an] at aS
  simp [execOp,ao.aC ad,ao.aC av,Instr.lookup,run_underlying aQ,aO,hk.pt,aS]
theorem aY.PK {t ei h7:TypeId} {x y:Operand} {b:Nat} {m:List (α×β)} {a:α} {z:Value} (hk:KeyOk P ei key) (aQ:P.underlying t=some (.map ei h7)) (b':∀ w,(zeroValue h7).run P w=.ok z w) (ad:aC E x=some (.map (some b))) (av:aC E y=some (key a)) (hm:∀ w,C w→lO key val w b m) :
 aY P ⟨d,.lookup t x y false,ty,pos,af,gd⟩ E C (match fH m a with|some u=>val u|none=>z):=fun s ao w hC=>by
 obtain ⟨es,c,h1,aa⟩:=hm w hC
 obtain ⟨j,aS⟩:=run_findKey (P:=P) hk a aa w
 have aO:=xA (P:=P) h1
 cases an:fH m a with
 | none =>
  rw [an] at aS
  simp [execOp,ao.aC ad,ao.aC av,Instr.lookup,run_underlying aQ,aO,hk.pt,aS,b']
 | some u =>
  rw [an] at aS
  simp [execOp,ao.aC ad,ao.aC av,Instr.lookup,run_underlying aQ,aO,hk.pt,aS]
theorem zh (w:World) (b:Nat) (o:Obj):Mod (b5 (b+1)) w { w with heap:=w.heap.setIfInBounds b o }:=
 ⟨rfl,rfl,rfl,by simp,fun k Jv hk aI=>by
  have:b≠k:=fun e=>aI (by unfold b5; omega)
  show (w.heap.setIfInBounds b _)[k]?=_
  rw [Array.getElem?_setIfInBounds_ne this]; exact hk⟩
theorem gl.PL {t ei h7:TypeId} {x y z:Operand} {b:Nat} {m:List (α×β)} {a:α} {u:β} (hk:KeyOk P ei key) (aQ:P.underlying t=some (.map ei h7)) (ad:aC E x=some (.map (some b))) (av:aC E y=some (key a)) (b':aC E z=some (val u)) (hm:lO key val w b m) (ho:fH m a=none)
 (eC:∀ ah,Mod (b5 (b+1)) w ah→ah.heap.size=w.heap.size→lO key val ah b (m++[(a,u)])→K undef ah):gl P ⟨d,.mapUpdate t x y z,ty,pos,af,gd⟩ E w K:=fun s ao=>by
 obtain ⟨es,c,h1,aa⟩:=hm
 obtain ⟨j,aS⟩:=run_findKey (P:=P) hk a aa w
 rw [ho] at aS
 have aO:=xA (P:=P) h1
 have gE:=(Array.getElem?_eq_some_iff.1 h1).1
 have h:=eC _ (zh w b (.map (es.push { key:=key a,val:=val u,born:=c }) (c+1))) (by simp) ⟨es.push { key:=key a,val:=val u,born:=c },c+1,by
  show (w.heap.setIfInBounds b _)[b]?=_
  simp [gE],by simp [aa]⟩
 simp [execOp,ao.aC ad,ao.aC av,ao.aC b',Instr.mapUpdate,run_underlying aQ,aO,hk.pt,aS,setObj,Sem.run,h1,out]
 exact h
theorem gl.makeMap {t:TypeId} (eC:∀ ah b,Ext w ah→b=w.heap.size→ah.heap.size=w.heap.size+1→lO key val ah b []→K (.map (some b)) ah):gl P ⟨d,.makeMap t none,ty,pos,af,gd⟩ E w K:=fun s ao=>by
 have h:=eC (w.alloc (.map #[] 0)) w.heap.size (Mod.alloc _ _ _) rfl (by simp) ⟨#[],0,by
  show (w.heap.push _)[w.heap.size]?=_
  simp,by simp⟩
 simp [execOp,Instr.makeMap,newObj,Sem.run,out]
 exact h
end
end
def iV (w:World) (cn al b:Nat) (cs:List Value):Prop:=cn≤b∧b < al∧Row w b 0 cs
theorem iV.ext {w ah:World} {cn al b:Nat} {cs:List Value} (h:iV w cn al b cs) (hm:Ext w ah):iV ah cn al b cs:=⟨h.1,h.2.1,h.2.2.ext hm⟩
theorem iV.bt {w ah:World} {cn al b g:Nat} {cs:List Value} (h:iV w cn al b cs) (hm:Mod (b5 g) w ah) (aO:g≤cn∨al < g):iV ah cn al b cs:=⟨h.1,h.2.1,h.2.2.bt hm (by have:=h.1; have:=h.2.1; omega)⟩
theorem iV.cell {w:World} {cn al b:Nat} {cs:List Value} (h:iV w cn al b cs) (i:Nat) (v:Value) (bG:cs[i]?=some v):Row w b i [v]:=fun j u hu=>by
 cases j with
 | zero =>
  simp only [List.getElem?_cons_zero,Option.some.injEq] at hu
  subst hu
  have:=h.2.2 i v bG
  simpa using this
 | succ j=>simp at hu
structure cb where
 a:Option Addr
 n:Nat
 c:Nat
def cb.val (h:cb):Value:=.slice h.a h.n h.c
def AY (g h:Nat):Nat→Prop:=fun b=>b+1=g∨b+1=h
theorem Mod.PM {g g1 g2:Nat} {w0 w ah:World} (h:Mod (AY g1 g2) w0 w) (k:Mod (b5 g) w ah) (aO:g=0∨w0.heap.size < g∨g=g1∨g=g2):Mod (AY g1 g2) w0 ah:=
 h.then k (fun i al a'=>by unfold b5 at al; unfold AY; omega)
inductive zi where
 | int (k:IntKind)
 | str
 | bool
def Jw (P:Program) (f:Field):Option (Nat×zi):=
 match P.underlying f.type with
 | some (.int k) => if f.name ≠ "_" then some (f.offset, .int k) else none
 | some .string => if f.name ≠ "_" then some (f.offset, .str) else none
 | some .bool => if f.name ≠ "_" then some (f.offset, .bool) else none
 | _=>none
def lP:zi→Value→Value→Option Bool
 | .int k,.int j a,.int IW b=>if j=k∧IW=k then some (a==b) else none
 | .str,.string a,.string b=>some (a.toList==b.toList)
 | .bool,.bool a,.bool b=>some (a==b)
 | _,_,_=>none
def k1:List (Nat×zi)→Array Value→Array Value→Option Bool
 | [],_,_=>some true
 | (o,k)::r,xs,ys =>
  match xs[o]?,ys[o]? with
  | some x,some y=>match lP k x y with
   | some true=>k1 r xs ys
   | some false=>some false
   | none=>none
  | _,_=>none
def xB (P:Program):List Field→Option (List (Nat×zi))
 | []=>some []
 | f::r=>match Jw P f,xB P r with
  | some k,some ks=>some (k::ks)
  | _,_=>none
theorem FO {P : Program} {xs ys : Array Value} {n : Nat} (w : World) : ∀ (j_ : List Field) (ks : List (Nat × zi)) (q : Bool), xB P j_ = some ks → k1 ks xs ys = some q → (Op.eqFields (n + 1) xs ys j_).run P w = .ok q w
  | [], ks, q, h1, aa => by
    simp only [xB, Option.some.injEq] at h1
    subst h1
    simp only [k1, Option.some.injEq] at aa
    subst aa
    simp [Op.eqFields]
  | f :: j_, ks, q, h1, aa => by
    unfold xB at h1
    cases hk : Jw P f with
    | none => simp [hk] at h1
    | some k =>
      cases qT : xB P j_ with
      | none => simp [hk, qT] at h1
      | some YE =>
        simp only [hk, qT, Option.some.injEq] at h1
        subst h1
        obtain ⟨o, k⟩ := k
        unfold k1 at aa
        have key : ∀ (d : TypeDesc), P.underlying f.type = some d → f.name ≠ "_" → f.offset = o → (∀ s, d ≠ .struct s) → (∀ a b, d ≠ .array a b) → (∀ x y r, lP k x y = some r → (Op.equalIn (n + 1) f.type x y).run P w = .ok r w) → (Op.eqFields (n + 1) xs ys (f :: j_)).run P w = .ok q w := by
          intro d hu aI dJ aF ao he
          cases ad : xs[o]? with
          | none => simp [ad] at aa
          | some x =>
            cases av : ys[o]? with
            | none => simp [ad, av] at aa
            | some y =>
              simp only [ad, av] at aa
              have PN : ∀ cs : Array Value, (part f.type cs f.offset).run P w = (match cs[f.offset]? with | some v => .ok v w | none => ((stuck "part: no such cell" : Sem Value)).run P w) := by
                intro cs
                unfold part isAgg
                simp only [Sem.run_bind, run_underlying hu, Result.andThen_ok]
                cases d <;> simp_all <;> (split <;> simp_all)
              have zj := PN xs; have FP := PN ys
              rw [dJ] at zj FP
              rw [ad] at zj; rw [av] at FP
              cases an : lP k x y with
              | none => simp [an] at aa
              | some r =>
                have aB := he x y r an
                rw [an] at aa
                have bq := fun h => FO (P := P) (xs := xs) (ys := ys) (n := n) w j_ YE q qT h
                cases r with
                | false =>
                  simp only [Option.some.injEq] at aa
                  subst aa
                  simp [Op.eqFields, aI, dJ, zj, FP, aB]
                | true =>
                  have := bq aa
                  simp [Op.eqFields, aI, dJ, zj, FP, aB, this]
        unfold Jw at hk
        cases hu : P.underlying f.type with
        | none => simp [hu] at hk
        | some d =>
          cases d <;> simp only [hu, reduceCtorEq] at hk <;> (split at hk) <;> (try cases hk) <;> rename_i aI
          all_goals refine key _ hu aI rfl (by intro s h; cases h) (by intro a b h; cases h) fun x y r an => ?_
          all_goals (cases x <;> simp only [lP, reduceCtorEq] at an <;> cases y <;> simp only [lP, reduceCtorEq, Option.some.injEq] at an)
          all_goals first
            | (split at an
               · rename_i aS
                 obtain ⟨rfl, rfl⟩ := aS
                 simp only [Option.some.injEq] at an
                 subst an
                 exact run_equalIn_int w n _ _ _ _ _ hu
               · cases an)
            | (subst an; exact run_equalIn_bool' w n _ _ _ hu)
            | (subst an; exact run_equalIn_string w n _ _ _ hu)
theorem AZ {P:Program} {t:TypeId} {xs ys:Array Value} {ks:List (Nat×zi)} {q:Bool} (bd:P.underlying t=some (.struct (P.fieldsOf t))) (hp:P.stoodInHeld t=false) (hk:xB P (P.fieldsOf t).toList=some ks) (dL:k1 ks xs ys=some q) (w:World) :
 (Op.equalIn 10000 t (.agg xs) (.agg ys)).run P w=.ok q w:=
 (run_equalIn_agg w 9999 t xs ys bd hp).trans (FO (n:=9998) w _ ks q hk dL)
theorem PO {p:Prop} [Decidable p] (h:true=!decide p):¬ p:=by
 intro hp; simp [hp] at h
theorem PQ {p:Prop} [Decidable p] (h:false=!decide p):p:=by
 by_cases hp:p
 · exact hp
 · simp [hp] at h
theorem xC {P:Program} {f:FuncId} {R:Ending→World→Prop} {n:Nat} {E:Env} {k:List Item} {w:World} {fn:Func} {t:Tmp} {ty:TypeId} {b off sz by_:Nat} {z cs:List Value} (bd:P.funcs[f]?=some fn) (oT:fn.results=#[.cell t ty])
 (bG:mv t E=some (ptr b off)) (aQ:dX P ty=some (true,sz,by_,z)) (aB:Row w b off cs) (aI:cs.length=sz) (e3:R (.returned (.agg cs.toArray)) w):gQ P f R n E (.code .ret::k) w:=fun a ao rL U hk cs' =>
 ⟨_,w,{ rL.at a (.code .ret::k) with mode:=.returning },e3,.one step_ret,U,AE ao bd U hk (by
  have aO:a.tmps[t]?.getD undef=.pointer (some ⟨b,off,none⟩):=by have:=ao.has t _ bG; simpa [ptr] using this
  simp [results,oT,aO,asAddr,Sem.run_bind,Result.andThen,I3 aQ aB aI])⟩
end Go.aA
