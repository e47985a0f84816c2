/-
  What the law WorkerRots needs, part 2 of 7: theory, and walks through the code. Names are said short.
-/
import Derived.Test.YtjideiielmlccaaGreatSWorkerRotsA
set_option linter.unusedVariables false
set_option linter.unusedSimpArgs false
set_option maxRecDepth 20000
set_option maxHeartbeats 8000000
namespace Go.ab
open Go.aA
def p' (s:ag):Prop:=(255:UInt8)∉s
theorem u4 {n:Nat} (h:n % 256≠255):gH n≠255:=fun e=>by
 have:=congrArg UInt8.toNat e
 rw [tA] at this
 exact h this
theorem YF {c:Nat} (h:jt c):p' (du c):=by
 obtain ⟨h1,aa,aq⟩:=h;unfold p' du;repeat' split
 all_goals simp only [List.mem_cons,List.not_mem_nil,or_false,not_or]
 · exact fun e=>u4 (by omega) e.symm
 · exact ⟨fun e=>u4 (by omega) e.symm,fun e=>u4 (by omega) e.symm⟩
 · exact ⟨fun e=>u4 (by omega) e.symm,fun e=>u4 (by omega) e.symm,fun e=>u4 (by omega) e.symm⟩
 · exact ⟨fun e=>u4 (by omega) e.symm,fun e=>u4 (by omega) e.symm,fun e=>u4 (by omega) e.symm,fun e=>u4 (by omega) e.symm⟩
theorem YG:∀ s,hh s→p' s:=
 Jm (by simp [p']) fun c t an _ bq=>by
  have:=YF an
  unfold p' at *
  rw [List.mem_append,not_or]; exact ⟨this,bq⟩
def oy (l:List ag):ag:=Lib.join l [255]
theorem Jx (x:ag) (r:List ag):oy (x::r)=x++Lib.joinTail [255] r:=Lib.join_cons x r [255]
theorem tail_cons (x:ag) (r:List ag):Lib.joinTail [255] (x::r)=255::(x++Lib.joinTail [255] r):=by simp [Lib.joinTail]
theorem tail_nil:Lib.joinTail [255] []=[]:=rfl
theorem Jy:∀ (x y u v:ag),p' x→p' y→(u=[]∨∃ xf,u=255::xf)→(v=[]∨∃ g_,v=255::g_)→x++u=y++v→x=y∧u=v
 | [],[],u,v,_,_,_,_,h=>⟨rfl,h⟩
 | [],b::y,u,v,_,av,hu,_,h=>by
  simp only [List.nil_append,List.cons_append] at h
  rcases hu with rfl|⟨xf,rfl⟩
  · cases h
  · simp only [List.cons.injEq] at h
    exact absurd (by simp [h.1]) av
 | a::x,[],u,v,ad,_,_,bG,h=>by
  simp only [List.nil_append,List.cons_append] at h
  rcases bG with rfl|⟨g_,rfl⟩
  · cases h
  · simp only [List.cons.injEq] at h
    exact absurd (by simp [h.1]) ad
 | a::x,b::y,u,v,ad,av,hu,bG,h=>by
  simp only [List.cons_append,List.cons.injEq] at h
  have:=Jy x y u v (fun e=>ad (by simp [e])) (fun e=>av (by simp [e])) hu bG h.2
  exact ⟨by rw [h.1,this.1],this.2⟩
theorem FQ (r:List ag):Lib.joinTail [255] r=[]∨∃ u,Lib.joinTail [255] r=255::u:=by
 cases r with
 | nil=>exact .inl rfl
 | cons x r=>exact .inr ⟨_,tail_cons x r⟩
theorem PR:∀ (r s:List ag),(∀ x∈r,p' x)→(∀ x∈s,p' x)→Lib.joinTail [255] r=Lib.joinTail [255] s→r=s
 | [],[],_,_,_=>rfl
 | [],y::s,_,_,h=>by rw [tail_nil,tail_cons] at h; cases h
 | x::r,[],_,_,h=>by rw [tail_nil,tail_cons] at h; cases h
 | x::r,y::s,aB,aF,h=>by
  rw [tail_cons,tail_cons] at h
  simp only [List.cons.injEq,true_and] at h
  have:=Jy x y _ _ (aB x (by simp)) (aF y (by simp)) (FQ r) (FQ s) h
  rw [this.1,PR r s (fun x ad=>aB x (by simp [ad])) (fun x ad=>aF x (by simp [ad])) this.2]
theorem YH {l m:List ag} (a':∀ x∈l,p' x) (hm:∀ x∈m,p' x) (h1:l≠[]) (aa:m≠[]) (h:oy l=oy m):l=m:=by
 cases l with
 | nil=>exact absurd rfl h1
 | cons x r =>
  cases m with
  | nil=>exact absurd rfl aa
  | cons y s =>
   rw [Jx,Jx] at h
   have:=Jy x y _ _ (a' x (by simp)) (hm y (by simp)) (FQ r) (FQ s) h
   rw [this.1,PR r s (fun x ad=>a' x (by simp [ad])) (fun x ad=>hm x (by simp [ad])) this.2]
theorem fD.CN {l:List ag} (h:fD l):∀ x∈l,p' x:=fun x ad=>YG x (h.my x ad)
def h0 (l:List ag):Nat:=(l.map List.length).sum
theorem YI (l:List ag):(oy l).length≤h0 l+l.length:=by
 cases l with
 | nil=>simp [oy,Lib.join,h0]
 | cons x r =>
  rw [Jx]
  have:∀ r:List ag,(Lib.joinTail [255] r).length≤h0 r+r.length:=by
   intro r
   induction r with
   | nil=>simp [tail_nil]
   | cons y r bq=>rw [tail_cons]; simp only [h0,List.map_cons,List.sum_cons,List.length_cons,List.length_append] at *; omega
  have:=this r
  simp only [h0,List.map_cons,List.sum_cons,List.length_cons,List.length_append] at *; omega
def kG (s:ch):List (ag×Int):=s.mapIdx fun i x=>(oy x.1,(i:Int))
theorem YJ (s:ch) (x:List ag×List bm):kG (s++[x])=kG s++[(oy x.1,(s.length:Int))]:=by
 unfold kG; rw [List.mapIdx_concat]
theorem YK {s t:ch} (h:names s=names t):kG s=kG t:=by
 unfold kG;have a':s.length=t.length:=(by simpa [names] using congrArg List.length h);refine List.ext_getElem (by simp [a']) fun i h1 aa=>?_
 simp only [List.length_mapIdx] at h1 aa;simp only [List.getElem_mapIdx,Prod.mk.injEq,and_true];have:(names s)[i]'(by simpa [names] using h1)=(names t)[i]'(by simpa [names] using aa):=by simp only [h]
 simp only [names,List.getElem_map] at this;rw [this]
def u5 (s:ch):Prop:=∀ x∈s,x.1≠[]∧∀ t∈x.1,p' t
theorem PS {r:List ag} (aB:∀ t∈r,p' t) (cA:r≠[]):∀ (s:ch),u5 s→fH (kG s) (oy r)=(s.findIdx? fun x=>x.1==r).map fun i:Nat=>(i:Int):=by
 intro s aF
 have key:∀ (s:ch) (k:Nat),u5 s→fH (s.mapIdx fun i x=>(oy x.1,((i+k:Nat):Int))) (oy r)=(s.findIdx? fun x=>x.1==r).map fun i:Nat=>((i+k:Nat):Int):=by
  intro s
  induction s with
  | nil=>intro k _; rfl
  | cons x s bq =>
   intro k h
   rw [List.mapIdx_cons,List.findIdx?_cons]
   by_cases ad:x.1=r
   · simp [fH,ad]
   · have aS:oy x.1≠oy r:=fun e=>ad (YH (h x (by simp)).2 aB (h x (by simp)).1 cA e)
     have:=bq (k+1) (fun y av=>h y (by simp [av]))
     unfold fH at this ⊢
     rw [List.find?_cons]
     simp only [decide_eq_false aS]
     have fw:(fun (i:Nat) (x:List ag×List bm)=>(oy x.1,((i+1+k:Nat):Int)))=fun (i:Nat) (x:List ag×List bm)=>(oy x.1,((i+(k+1):Nat):Int)):=by
      funext i x; congr 2; omega
     rw [fw,this]
     have YL:(x.1==r)=false:=by simp [ad]
     simp only [YL,Bool.false_eq_true,if_false,Option.map_map]
     cases s.findIdx? fun x=>x.1==r with
     | none=>rfl
     | some i=>simp only [Option.map_some,Function.comp_apply,Option.some.injEq]; omega
 exact key s 0 aF
def iB (r:List ag):Bool:=decide (r.head?=some [])
def Jz (es:List bm) (r:Int):Option Int:=(es.find? fun e=>e.rune==r).map bm.to
def e5 {cr:Type} (f:cr→ag→cr×Bool):cr→List ag→cr×Bool
 | s,[]=>(s,true)
 | s,x::r=>if (f s x).2=true then e5 f (f s x).1 r else ((f s x).1,false)
theorem JA {cr:Type} (f:cr→ag→cr×Bool):∀ (a b:List ag) (s:cr),e5 f s (a++b)=if (e5 f s a).2=true then e5 f (e5 f s a).1 b else e5 f s a
 | [],b,s=>by simp [e5]
 | x::a,b,s=>by
  simp only [List.cons_append,e5]
  split
  · rw [JA f a b]
  · simp
theorem FR {x:List ag×List bm} (h:fD x.1):x.1=(if iB x.1=true then [[]] else [])++(ga (eZ x.1)).flatMap fun g=>g.2.map (du g.1++·):=by
 have hd:=tC h;have ok:=wa _ _ (Nat.le_refl _) hd.1 hd.2;rw [ok.all];unfold iB
 cases ad:x.1 with
 | nil=>simp [eZ]
 | cons a r =>
  cases a with
  | nil=>simp [eZ]
  | cons y a=>simp [eZ]
theorem lL.step {s:ag} {p:Nat} {l:List Int} (h:lL s p l) (he:s.drop p≠[]) (hd:((dec (s.drop p)).1:Int)≠65533):lL s (p+(dec (s.drop p)).2) (l++[((dec (s.drop p)).1:Int)]):=by
 obtain ⟨pre,h1,aa,aq⟩:=h.ex;refine ⟨⟨_,h1.next he,by rw [aa,List.map_append]; rfl,?_⟩⟩;simp only [List.mem_append,List.mem_singleton,not_or];exact ⟨aq,fun e=>hd (by omega)⟩
theorem lL.uV {s:ag} {p:Nat} {l:List Int} (h:lL s p l) (he:s.drop p≠[]) (hd:((dec (s.drop p)).1:Int)=65533):false=k0 s:=by
 obtain ⟨pre,h1,aa,aq⟩:=h.ex;have:=h1.mem he;have e:(dec (s.drop p)).1=65533:=(by omega);rw [e] at this;unfold k0; simp [this]
theorem lL.done {s:ag} {p:Nat} {l:List Int} (h:lL s p l) (he:s.drop p=[]):l=dS s∧true=k0 s:=by
 obtain ⟨pre,h1,aa,aq⟩:=h.ex;have:=h1.done he;refine ⟨by rw [aa,dS,this],?_⟩;unfold k0; rw [this]; simp [aq]
theorem lL.pos {s:ag} {p:Nat} {l:List Int} (h:lL s p l):p≤s.length:=by
 obtain ⟨pre,h1,_⟩:=h.ex;exact h1.le
theorem PT (s:ag):(ji s).length≤s.length:=by
 unfold ji;split
 · unfold dS; rw [List.length_map]; exact OI s
 · simp
def wb (s:ag) (p:Nat) (hd:Int):Prop:=(p=0∧hd=0)∨(0 < p∧p=kF s∧hd=(fm s:Int))
theorem wb.next {s:ag} {p:Nat} {hd:Int} (h:wb s p hd) (he:s.drop p≠[]) (a8:p=0):wb s (p+(dec (s.drop p)).2) ((dec (s.drop p)).1:Int):=by
 subst a8;simp only [List.drop_zero,Nat.zero_add] at he ⊢;have:=xl s he;exact .inr ⟨by omega,rfl,rfl⟩
theorem wb.ret {s:ag} {p:Nat} {hd:Int} (h:wb s p hd) (a8:0 < p):hd=(fm s:Int)∧((p:Nat):Int)=((kF s:Nat):Int):=by
 rcases h with h|h
 · omega
 · exact ⟨h.2.2,by rw [h.2.1]⟩
theorem wb.fin {s:ag} {p:Nat} {hd:Int} (h:wb s p hd) (cA:s≠[]) (he:s.drop p=[]):hd=(fm s:Int)∧((s.length:Nat):Int)=((kF s:Nat):Int):=by
 rcases h with ⟨rfl,_⟩|⟨h1,aa,aq⟩
 · exact absurd (by simpa using he) cA
 · refine ⟨aq,?_⟩;have a':=AN s cA;have:=congrArg List.length he;simp only [List.length_drop,List.length_nil] at this;unfold kF at *;omega
theorem CO (s:ag):s≠[]→1≤kF s∧kF s≤s.length:=fun h=>⟨xl s h,AN s h⟩
theorem CP (s:ag):fm s≤1114111:=OB s
theorem PU {s p:ag} {b:Bool} (a':((s.length:Nat):Int)≥((p.length:Nat):Int)) (U:b=(s.take p.length==p)):b=p.isPrefixOf s:=by
 rw [U,Bool.eq_iff_iff,List.isPrefixOf_iff_prefix,beq_iff_eq];constructor
 · intro h; rw [←h]; exact List.take_prefix _ _
 · rintro ⟨t,rfl⟩; simp
theorem PV {s p:ag} (a':¬ ((s.length:Nat):Int)≥((p.length:Nat):Int)):false=p.isPrefixOf s:=by
 cases h:p.isPrefixOf s with
 | false=>rfl
 | true =>
  rw [List.isPrefixOf_iff_prefix] at h
  have:=h.length_le
  omega
structure PW (es:List bm) (r:Int) (k:Nat):Prop where
 no:∀ e∈es.take k,e.rune≠r
theorem PW.none {es:List bm} {r:Int} {k:Nat} (h:PW es r k) (hk:es.length≤k):(0:Int)=(Jz es r).getD 0∧false=(Jz es r).isSome:=by
 have aI:=h.no;rw [List.take_of_length_le hk] at aI
 have:es.find? (fun e=>e.rune==r)=Option.none:=by
  rw [List.find?_eq_none]
  intro e he; simp [aI e he]
 unfold Jz;rw [this];exact ⟨rfl,rfl⟩
end Go.ab
set_option linter.unusedSectionVars false
namespace Go.aA
open Go
theorem aY.JB {P:Program} {E:Env} {C:World→Prop} {d:Option Tmp} {ty:TypeId} {pos:String} {af:Array Edge} {gd:Option (Nat×Bool)} {xt yt e:TypeId} {x y:Operand} {a:Option Addr} {n c:Nat} (hu:P.underlying xt=some (.slice e)) (ad:aC E x=some (.slice a n c)) (av:aC E y=some (.slice none 0 0)) :
 aY P ⟨d,.binOp .eql xt x y yt,ty,pos,af,gd⟩ E C (.bool a.isNone):=fun s ao w _=>by
 have h:(Op.equal xt (.slice a n c) (.slice none 0 0)).run P w=.ok a.isNone w:=by
  have key:∀ k,(Op.equalIn (k+1) xt (.slice a n c) (.slice none 0 0)).run P w=.ok a.isNone w:=fun k=>by
   cases a<;>simp [Op.equalIn,run_underlying hu]
  exact key 9999
 have aO:(eqGuard .eql xt x y (.slice a n c) (.slice none 0 0)).run P w=.ok () w:=by
  unfold eqGuard; split<;>simp
 simp [execOp,ao.aC ad,ao.aC av,aO,Go.binOp,h]
theorem ak.isNil {α:Type} {enc:α→List Value} {w:World} {F:Nat→Prop} {v:Value} {l:List α} (h:ak enc w F v l):∃ a c,v=.slice a l.length c∧(a.isNone=true→l=[]):=by
 obtain ⟨a,c,h1,aa,aq,a6⟩:=h;refine ⟨a,c,h1,fun aI=>?_⟩;rcases a6 with a6|⟨b,off,bT,_⟩
 · exact a6
 · subst bT; cases aI
structure cc where
 fin:Bool
 e:cb
def eR (x:cc):List Value:=[.bool x.fin,x.e.val]
theorem l9 (x:cc):(eR x).length=2:=rfl
theorem CQ (x:cc):(eR x).all (·.oneCell')=true:=rfl
abbrev bC:=Bool×List ab.bm
def iC (w:World) (F:Nat→Prop) (aT:List cc) (N:List bC):Prop:=cx (fun r n=>r.fin=n.1∧ak ab.eg w F r.e.val n.2) aT N
theorem iC.keep {M:Nat→Prop} {w ah:World} {F:Nat→Prop} {aT:List cc} {N:List bC} (h:iC w F aT N) (hm:Mod M w ah) (bO:∀ b,F b→¬ M b):iC ah F aT N:=
 cx.imp (fun r n ⟨h1,aa⟩=>⟨h1,aa.keep hm bO⟩) h
theorem iC.ext {w ah:World} {F:Nat→Prop} {aT:List cc} {N:List bC} (h:iC w F aT N) (hm:Ext w ah):iC ah F aT N:=h.keep hm (fun _ _ x=>x)
theorem iC.mono {w:World} {F F':Nat→Prop} {aT:List cc} {N:List bC} (h:iC w F aT N) (bO:∀ b,F b→F' b):iC w F' aT N:=
 cx.imp (fun r n ⟨h1,aa⟩=>⟨h1,aa.mono bO⟩) h
theorem iC.at {w:World} {F:Nat→Prop} {aT:List cc} {N:List bC} (h:iC w F aT N) {i:Nat} {r:cc} (aB:aT[i]?=some r):∃ n,N[i]?=some n∧r.fin=n.1∧ak ab.eg w F r.e.val n.2:=by
 have aO:=h.get;have gE:=(List.getElem?_eq_some_iff.1 aB).1;have ad:N[i]?=some (N[i]'(by rw [←aO.1]; exact gE)):=(by simp);exact ⟨_,ad,aO.2 i _ _ aB ad⟩
def gp (gt:TypeId) (w:World) (cn al:Nat) (v:Value) (N:List bC):Prop:=
 (v=.pointer none∧N=[])∨∃ b fJ aT,v=ptr b 0∧N≠[]∧iV w cn al b [fJ]∧ak eR w (aR cn al) fJ aT∧iC w (aR cn al) aT N
theorem gp.ext {gt:TypeId} {w ah:World} {cn al:Nat} {v:Value} {N:List bC} (h:gp gt w cn al v N) (hm:Ext w ah):gp gt ah cn al v N:=by
 rcases h with h|⟨b,fJ,aT,h1,aa,aq,a6,bT⟩
 · exact .inl h
 · exact .inr ⟨b,fJ,aT,h1,aa,aq.ext hm,a6.ext hm,bT.ext hm⟩
theorem gp.bt {gt:TypeId} {w ah:World} {cn al g:Nat} {v:Value} {N:List bC} (h:gp gt w cn al v N) (hm:Mod (b5 g) w ah) (aO:g≤cn∨al < g):gp gt ah cn al v N:=by
 rcases h with h|⟨b,fJ,aT,h1,aa,aq,a6,bT⟩
 · exact .inl h
 · exact .inr ⟨b,fJ,aT,h1,aa,aq.bt hm aO,a6.bt hm aO,bT.keep hm fun b U ad=>by unfold aR b5 at *; omega⟩
def fa (s:ab.ch):List bC:=s.map fun x=>(ab.iB x.1,x.2)
def nodeAt (N:List bC) (n:Int):bC:=if 0≤n then N[n.toNat]?.getD (false,[]) else (false,[])
theorem CR {N:List bC} {n:Int} (h:n < 0∨(N.length:Int)≤n):nodeAt N n=(false,[]):=by
 unfold nodeAt;split
 · have:N[n.toNat]?=none:=List.getElem?_eq_none (by omega)
   rw [this]; rfl
 · rfl
theorem JC {N:List bC} {n:Int} {x:bC} (h:0≤n) (ad:N[n.toNat]?=some x):nodeAt N n=x:=by
 unfold nodeAt; rw [if_pos h,ad]; rfl
theorem iC.bt {w ah:World} {cn al g:Nat} {aT:List cc} {N:List bC} (h:iC w (aR cn al) aT N) (hm:Mod (b5 g) w ah) (aO:g≤cn∨al < g):iC ah (aR cn al) aT N:=h.keep hm fun b U ad=>by unfold aR b5 at *; omega
theorem gp.pos {gt:TypeId} {w:World} {cn al:Nat} {v:Value} {N:List bC} (h:gp gt w cn al v N) (aI:0 < N.length):∃ b fJ aT,v=ptr b 0∧N≠[]∧iV w cn al b [fJ]∧ak eR w (aR cn al) fJ aT∧iC w (aR cn al) aT N:=by
 rcases h with ⟨_,h⟩|h
 · subst h; simp at aI
 · exact h
theorem A0 {N:List bC} (h:∀ x∈N,x.2.length≤1000000) (n:Int):(nodeAt N n).2.length≤1000000:=by
 unfold nodeAt;split
 · cases ad:N[n.toNat]? with
   | none=>simp
   | some x=>exact h x (List.mem_of_getElem? ad)
 · simp
structure JD (P:Program) {cr:Type} (mN:FuncId) (first cap:List Value) (B:Nat) (Inv:cr→(Nat→Prop)→World→Prop) (ok:cr→ag→Prop) (f:cr→ag→cr×Bool):Prop where
 cl:bX P mN=true
 ext:∀ s F w ah,Inv s F w→Ext w ah→Inv s F ah
 CS:∀ s F w,Inv s F w→∀ b,F b→B≤b∧b < w.heap.size
 call:∀ s F w x,Inv s F w→ok s x→Calls P mN (first++[aH x]++cap).toArray w (aj fun aD ah=>aD=.bool (f s x).2∧Mod F w ah∧∃ F',Inv (f s x).1 F' ah∧∀ b,F' b→F b∨w.heap.size≤b)
def wc (F:Nat→Prop) (B:Nat):Prop:=∀ b,F b→B≤b
theorem wc.of {P:Program} {cr:Type} {mN:FuncId} {first cap:List Value} {B:Nat} {Inv:cr→(Nat→Prop)→World→Prop} {ok:cr→ag→Prop} {f:cr→ag→cr×Bool} (av:JD P mN first cap B Inv ok f) {s:cr} {F:Nat→Prop} {w:World} (h:Inv s F w):wc F B:=fun b U=>(av.CS s F w h b U).1
theorem ak.sB {α:Type} {enc:α→List Value} {w ah:World} {cn al B:Nat} {F:Nat→Prop} {v:Value} {l:List α} (h:ak enc w (aR cn al) v l) (hm:Mod F w ah) (bO:wc F B) (aO:al≤B):ak enc ah (aR cn al) v l:=
 h.keep hm fun b U ad=>by have:=bO b ad; unfold aR at U; omega
theorem iV.sB {w ah:World} {cn al b B:Nat} {F:Nat→Prop} {cs:List Value} (h:iV w cn al b cs) (hm:Mod F w ah) (bO:wc F B) (aO:al≤B):iV ah cn al b cs:=⟨h.1,h.2.1,h.2.2.keep hm fun ad=>by have:=h.2.1; have:=bO b ad; omega⟩
theorem iC.sB {w ah:World} {cn al B:Nat} {F:Nat→Prop} {aT:List cc} {N:List bC} (h:iC w (aR cn al) aT N) (hm:Mod F w ah) (bO:wc F B) (aO:al≤B):iC ah (aR cn al) aT N:=h.keep hm fun b U ad=>by have:=bO b ad; unfold aR at U; omega
theorem gp.sB {gt:TypeId} {w ah:World} {cn al B:Nat} {F:Nat→Prop} {v:Value} {N:List bC} (h:gp gt w cn al v N) (hm:Mod F w ah) (bO:wc F B) (aO:al≤B):gp gt ah cn al v N:=by
 rcases h with h|⟨b,fJ,aT,h1,aa,aq,a6,bT⟩
 · exact .inl h
 · exact .inr ⟨b,fJ,aT,h1,aa,aq.sB hm bO aO,a6.sB hm bO aO,bT.sB hm bO aO⟩
theorem zk.hq {F:Nat→Prop} {g:Nat} {w0 w ah:World} (h:Mod F w0 w) (k:Mod (b5 g) w ah) (aO:g=0∨w0.heap.size < g):Mod F w0 ah:=h.then k (fun i al a'=>by unfold b5 at al; omega)
theorem zk.JE {F F':Nat→Prop} {w0 w ah:World} (h:Mod F w0 w) (k:Mod F' w ah) (bO:∀ b,F' b→F b∨w0.heap.size≤b):Mod F w0 ah:=h.then k (fun i al a'=>(bO i al).resolve_right (by omega))
def kH {cr:Type} (ok:cr→ag→Prop) (f:cr→ag→cr×Bool):cr→List ag→Prop
 | _,[]=>True
 | s,x::r=>ok s x∧((f s x).2=true→kH ok f (f s x).1 r)
theorem kH.app {cr:Type} {ok:cr→ag→Prop} {f:cr→ag→cr×Bool}:∀ {a b:List ag} {s:cr},kH ok f s (a++b)→kH ok f s a∧((ab.e5 f s a).2=true→kH ok f (ab.e5 f s a).1 b)
 | [],b,s,h=>⟨trivial,fun _=>h⟩
 | x::a,b,s,h=>by
  have h1:ok s x∧((f s x).2=true→kH ok f (f s x).1 (a++b)):=h
  constructor
  · exact ⟨h1.1,fun ad=>(kH.app (h1.2 ad)).1⟩
  · intro he
    unfold ab.e5 at he ⊢
    split at he
    · rename_i ad
      rw [if_pos ad]
      exact (kH.app (h1.2 ad)).2 he
    · cases he
open ab in
def rU (ahead:ag) (r:List ag) (k:Nat):List ag:=((ga (eZ r)).drop k).flatMap fun g=>g.2.map fun t=>ahead++(du g.1++t)
open ab in
theorem PX {ahead:ag} {r:List ag} (h:fD r):r.map (ahead++·)=(if iB r=true then [ahead] else [])++rU ahead r 0:=by
 have ao:=FR (x:=(r,[])) h;simp only at ao;unfold rU
 conv=>lhs; rw [ao]
 rw [List.map_append,List.drop_zero,List.map_flatMap];congr 1
 · split<;>simp
 · simp [List.map_map,Function.comp_def]
open ab in
theorem qU {ahead:ag} {r:List ag} {k:Nat} {g:Nat×List ag} (aO:(ga (eZ r))[k]?=some g):rU ahead r k=g.2.map ((ahead++du g.1)++·)++rU ahead r (k+1):=by
 obtain ⟨hk,rfl⟩:=List.getElem?_eq_some_iff.1 aO;unfold rU;rw [List.drop_eq_getElem_cons hk,List.flatMap_cons];congr 1
 simp
open ab in
theorem u6 {ahead:ag} {r:List ag} {k:Nat} (h:(ga (eZ r)).length≤k):rU ahead r k=[]:=by
 unfold rU; rw [List.drop_of_length_le h]; rfl
open ab in
theorem u7 {cr:Type} {f:cr→ag→cr×Bool} {eo dt:cr} {all rest a b:List ag} (h:e5 f eo all=e5 f dt rest) (aB:rest=a++b) (U:(e5 f dt a).2=false):e5 f eo all=e5 f dt a:=by
 rw [h,aB,JA,if_neg (by rw [U]; simp)]
open ab in
theorem PY {cr:Type} {f:cr→ag→cr×Bool} {eo dt:cr} {all rest a b:List ag} (h:e5 f eo all=e5 f dt rest) (aB:rest=a++b) (U:(e5 f dt a).2=true):e5 f eo all=e5 f (e5 f dt a).1 b:=by
 rw [h,aB,JA,if_pos U]
open ab in
theorem JF {cr:Type} {f:cr→ag→cr×Bool} {s:cr} {a:ag} {r:List ag} (h:(f s a).2=true):e5 f s ([a]++r)=e5 f (f s a).1 r:=by
 simp [e5,h]
open ab in
theorem tE {cr:Type} {f:cr→ag→cr×Bool} {s:cr} {a:ag} {r:List ag} (h:(f s a).2=false):e5 f s ([a]++r)=((f s a).1,false):=by
 simp [e5,h]
open ab in
open ab in
theorem zl {s:ch} {x:List ag×List bm} (an:nq s x) (im:fD x.1) {k:Nat} {e:bm} (he:x.2[k]?=some e):∃ (g:Nat×List ag) (j:Nat) (es:List bm),(ga (eZ x.1))[k]?=some g∧e.rune=(g.1:Int)∧e.to=(j:Int)∧s[j]?=some (g.2,es)∧jt g.1∧g.2≠[]:=by
 have aO:=cx.get an;have gE:=(List.getElem?_eq_some_iff.1 he).1;have ad:(ga (eZ x.1))[k]?=some ((ga (eZ x.1))[k]'(by rw [aO.1]; exact gE)):=(by simp);obtain ⟨h1,j,es,aa,aq⟩:=aO.2 k _ _ ad he;have hd:=tC im;have ok:=wa _ _ (Nat.le_refl _) hd.1 hd.2;have c7:=ok.eQ _ (List.mem_of_getElem? ad);exact ⟨_,j,es,ad,h1,aa,aq,c7.1,c7.2.1⟩
open ab in
theorem A1 {l:List ag} (aO:fD l) {d k:Nat} {g:Nat×List ag} (h:Deep d l) (hk:(ga (eZ l))[k]?=some g):∃ e,d=e+1∧Deep e g.2:=by
 have hI:=List.mem_of_getElem? hk
 cases d with
 | zero =>
  exfalso
  have hd:=tC aO
  have ok:=wa _ _ (Nat.le_refl _) hd.1 hd.2
  obtain ⟨t,aQ⟩:∃ t,t∈g.2:=by
   cases eA:g.2 with
   | nil=>exact absurd eA (ok.eQ g hI).2.1
   | cons t _=>exact ⟨t,by simp⟩
  have hm:du g.1++t∈eZ l:=by
   rw [←ok.all]
   exact List.mem_flatMap.2 ⟨g,hI,List.mem_map.2 ⟨t,aQ,rfl⟩⟩
  have:=h _ (zc hm)
  rw [u2 (ok.eQ g hI).1] at this
  simp at this
 | succ e=>exact ⟨e,rfl,Pw aO h g hI⟩
open ab in
theorem zm {s:ch} {n:Nat} {x:List ag×List bm} (h:s[n]?=some x):nodeAt (fa s) (n:Int)=(iB x.1,x.2):=by
 refine JC (by omega) ?_;simp [fa,h]
theorem tF (s:ab.ch):(fa s).length=s.length:=by simp [fa]
theorem we (c:Nat):(ab.du c).length≤4:=by
 unfold ab.du; repeat' split
 all_goals simp
structure sC (N:List bC) (s:ab.ch) (words:List ag):Prop where
 nodes:N=fa s
 root:∃ es,nodeAt N 0=(ab.iB words,es)∧ab.nq s (words,es)
 eQ:ab.fD words
 deep:ab.Deep 12 words
 node:∀ y∈s,ab.nq s y∧ab.fD y.1∧ab.Deep 12 y.1
 size:s.length≤1000000
 PZ:∀ y∈s,y.2.length≤1000000
theorem sC.of {s:ab.ch} {words:List ag} (h:ab.PB s words) (aF:s.length≤1000000) (IQ:∀ y∈s,y.2.length≤1000000):sC (fa s) s words:=by
 obtain ⟨es,he⟩:=h.root;have aI:=h.node _ (List.mem_of_getElem? he);exact ⟨rfl,⟨es,zm he,aI.u3⟩,aI.eQ,aI.deep,fun y av=>⟨(h.node y av).u3,(h.node y av).eQ,(h.node y av).deep⟩,aF,IQ⟩
theorem sC.empty:sC [(false,[])] [([],[])] []:=⟨rfl,⟨[],rfl,.nil⟩,⟨List.Pairwise.nil,by simp⟩,by simp [ab.Deep],by
 intro y av
 simp only [List.mem_singleton] at av
 subst av
 exact ⟨.nil,⟨List.Pairwise.nil,by simp⟩,by simp [ab.Deep]⟩,by simp,by simp⟩
def u9 (qa e:TypeId) (eu B:Nat) (l:List ag) (F:Nat→Prop) (w:World):Prop:=
 ∃ v g,ez w eu [v] qa∧Acc cp e 1 w g v l∧eu+1≠g∧B≤eu∧(g=0∨B < g)∧∀ b,F b↔b=eu∨b+1=g
theorem u9.ext {qa e:TypeId} {eu B:Nat} {l:List ag} {F:Nat→Prop} {w ah:World} (h:u9 qa e eu B l F w) (hm:Ext w ah):u9 qa e eu B l F ah:=by
 obtain ⟨v,g,h1,aa,aq⟩:=h;exact ⟨v,g,h1.ext hm,aa.ext hm,aq⟩
theorem u9.CS {qa e:TypeId} {eu B:Nat} {l:List ag} {F:Nat→Prop} {w:World} (h:u9 qa e eu B l F w):∀ b,F b→B≤b∧b < w.heap.size:=by
 obtain ⟨v,g,h1,aa,aq,a6,bT,ed⟩:=h;intro b U;have a':=h1.lt;have aO:=aa.lt;rcases (ed b).1 U with e|e
 · omega
 · omega
theorem u9.go {qa e:TypeId} {eu B:Nat} {kE:List ag} {F:Nat→Prop} {w ah:World} {g_:Value} {g e':Nat} (ed:∀ b,F b↔b=eu∨b+1=g) (eK:B≤eu) (bT:g=0∨B < g) (cA:eu+1≠g) (U:eu < w.heap.size) (bw:ez ah eu [g_] qa) (cB:Acc cp e 1 ah e' g_ kE) (d_:e'=g∨w.heap.size < e') :
 ∃ F',u9 qa e eu B kE F' ah∧∀ b,F' b→F b∨w.heap.size≤b:=
 ⟨fun b=>b=eu∨b+1=e',⟨g_,e',bw,cB,by omega,eK,by omega,fun b=>Iff.rfl⟩,fun b xn=>by
  rcases xn with e|e
  · exact .inl ((ed b).2 (.inl e))
  · rcases d_ with d_|d_
    · exact .inl ((ed b).2 (.inr (by omega)))
    · exact .inr (by omega)⟩
theorem P0:∀ (L l:List ag),ab.e5 (fun (s:List ag) x=>(s++[x],true)) l L=(l++L,true)
 | [],l=>by simp [ab.e5]
 | x::L,l=>by
  simp only [ab.e5,if_true]
  rw [P0 L (l++[x])]; simp
theorem P1 (m:Nat):∀ (L l:List ag),l.length+L.length≤m→kH (fun (s:List ag) (_:ag)=>s.length≤m) (fun s x=>(s++[x],true)) l L
 | [],l,_=>trivial
 | x::L,l,h=>⟨by simp only [List.length_cons] at h; omega,fun _=>P1 m L (l++[x]) (by simp only [List.length_cons,List.length_append,List.length_nil] at h ⊢; omega)⟩
theorem zn {α:Type} {l:List α} {k:Nat} {x:α} (ad:l[k]?=some x):l.drop k=x::l.drop (k+1):=by
 obtain ⟨h,rfl⟩:=List.getElem?_eq_some_iff.1 ad;exact List.drop_eq_getElem_cons h
open ab in
open ab in
open ab in
open ab in
theorem YM {w:ag} {k:Nat} {r:Int} (h:(ji w)[k]?=some r):hh w∧∃ c:Nat,(gj w)[k]?=some c∧r=(c:Int)∧jt c:=by
 unfold ji at h;split at h
 · rename_i bd;have bd:=Pk.1 bd;unfold dS at h;rw [List.getElem?_map] at h;obtain ⟨c,an,rfl⟩:=Option.map_eq_some_iff.1 h;exact ⟨bd,c,an,rfl,(FG w bd).2 c (List.mem_of_getElem? an)⟩
 · simp at h
open ab in
open ab in
open ab in
theorem sC.xy {N:List bC} {s:ch} {words:List ag} (h:sC N s words):(∀ x∈N,∀ e∈x.2,bp e.to∧-2147483648≤e.rune∧e.rune≤2147483647)∧N.length≤1000000∧∀ x∈N,x.2.length≤1000000:=by
 rw [h.nodes];refine ⟨fun x ad e he=>?_,by rw [tF]; exact h.size,fun x ad=>?_⟩
 · obtain ⟨y,av,rfl⟩:=List.mem_map.1 ad;obtain ⟨k,hk⟩:=List.mem_iff_getElem?.1 he;obtain ⟨g,j,es,h1,aa,aq,a6,bT,ed⟩:=zl (h.node y av).1 (h.node y av).2.1 hk;have:=(List.getElem?_eq_some_iff.1 a6).1;have:=h.size;obtain ⟨jH,_⟩:=bT;unfold bp; omega
 · obtain ⟨y,av,rfl⟩:=List.mem_map.1 ad;exact h.PZ y av
theorem YN {w:ag} {k:Nat} {r:Int} (h:(ab.ji w)[k]?=some r):0≤r∧r≤1114111:=by
 obtain ⟨_,c,_,rfl,h1,_⟩:=YM h;omega
end Go.aA
namespace Go.aA
open Go Go.Proofs
theorem YO (l:List ag):l.flatMap cp=l.map aH:=by
 induction l with
 | nil=>rfl
 | cons a l bq=>simp [cp,bq]
theorem YP {P:Program} {JG:Go.Shelf.Ren} (L:Lays.n156 P JG) (X:Builder.Extra P JG) {w0:World} {F:Nat→Prop} {v:Value} {l:List ag} (h:ak cp w0 F v l) (cA:l≠[]) (U:∀ b,F b→b < w0.heap.size) (hlen:ab.h0 l+l.length≤100000000) :
 Calls P (JG.f 156) #[v,aH [255]] w0 (aj fun aD ai=>aD=aH (ab.oy l)∧Ext w0 ai):=by
 obtain ⟨a,cap,rfl,aa,aq,a6⟩:=h;rcases a6 with a6|⟨b,off,rfl,bO,aB⟩
 · exact absurd a6 cA
 · have aS:=ab.YI l
   have P2:(l.map fun s:ag=>(⟨s.toArray⟩:ByteArray)).map (·.data.toList)=l:=by
    rw [List.map_map]
    conv=>rhs; rw [←List.map_id l]
    exact List.map_congr_left fun s _=>by simp
   have an:=Any.strings_Join_48 L X b off cap (l.map fun s:ag=>(⟨s.toArray⟩:ByteArray)) ⟨#[255]⟩ w0 (fun j x ad=>by
    rw [List.getElem?_map] at ad
    obtain ⟨s,aF,rfl⟩:=Option.map_eq_some_iff.1 ad
    have:=aB j (aH s) (by rw [YO,List.getElem?_map,aF]; rfl)
    exact this) (U b bO) (by rw [List.length_map]; omega) (by rw [List.length_map]; exact aa) (by
    rw [P2]
    have:(ab.oy l).length≤281474976710656:=by omega
    exact this)
   rw [List.length_map,P2] at an;refine Calls.mono an ?_;rintro e ah ⟨rfl,hw⟩;exact ⟨_,rfl,rfl,Mod.W3 hw⟩
end Go.aA
set_option linter.unusedSectionVars false
namespace Go.aA
open Go
structure dc (R:Nat→Prop) where
 p:(Nat→Prop)→World→Prop
 keep:∀ {F:Nat→Prop} {w ah:World} {M:Nat→Prop},p F w→Mod M w ah→(∀ b,F b→¬ M b)→(∀ b,R b→¬ M b)→p F ah
def Sep {R:Nat→Prop} (L:List (dc R)) (iN:Nat→Prop) (w:World):Prop:=
 ∃ fe:Nat→Nat→Prop,(∀ (i:Nat) (A:dc R),L[i]?=some A→A.p (fe i) w)∧(∀ i b,fe i b→(iN b∧¬ R b)∧b < w.heap.size)∧∀ i j b,i≠j→fe i b→¬ fe j b
section
variable {R:Nat→Prop} {L:List (dc R)} {iN:Nat→Prop} {w ah:World}
theorem Sep.keep {M:Nat→Prop} (h:Sep L iN w) (hm:Mod M w ah) (YQ:∀ b,iN b→b < w.heap.size→¬ M b) (e3:∀ b,R b→¬ M b):Sep L iN ah:=by
 obtain ⟨fe,h1,aa,aq⟩:=h;exact ⟨fe,fun i A bg=>A.keep (h1 i A bg) hm (fun b U=>YQ b (aa i b U).1.1 (aa i b U).2) e3,fun i b U=>⟨(aa i b U).1,Nat.lt_of_lt_of_le (aa i b U).2 hm.size⟩,aq⟩
theorem Sep.act {i:Nat} {A:dc R} (h:Sep L iN w) (e3:∀ b,R b→b < w.heap.size) (al:L[i]?=some A):∃ F,A.p F w∧(∀ b,F b→(iN b∧¬ R b)∧b < w.heap.size)∧∀ (ah:World) (F':Nat→Prop) (mA:dc R),Mod F w ah→mA.p F' ah→(∀ b,F' b→b < ah.heap.size∧(F b∨(w.heap.size≤b∧iN b)))→Sep (L.set i mA) iN ah:=by
 obtain ⟨fe,h1,aa,aq⟩:=h;refine ⟨fe i,h1 i A al,aa i,fun ah F' mA hm CT qb=>⟨fun k=>if k=i then F' else fe k,fun k B eK=>?_,fun k b U=>?_,fun j k b kq aS hk=>?_⟩⟩
 · by_cases hk:k=i
   · subst hk;rw [List.getElem?_set_self (List.getElem?_eq_some_iff.1 al).1] at eK;simp only [if_true];cases eK; exact CT
   · rw [List.getElem?_set_ne (fun e=>hk e.symm)] at eK;simp only [if_neg hk];exact B.keep (h1 k B eK) hm (fun b U ad=>aq k i b hk U ad) fun b U ad=>(aa i b ad).1.2 U
 · by_cases hk:k=i
   · subst hk;simp only [if_true] at U;obtain ⟨a6,bT⟩:=qb b U;exact ⟨bT.elim (fun h=>(aa k b h).1) (fun h=>⟨h.2,fun aB=>by have:=e3 b aB; omega⟩),a6⟩
   · simp only [if_neg hk] at U;exact ⟨(aa k b U).1,Nat.lt_of_lt_of_le (aa k b U).2 hm.size⟩
 · by_cases fl:j=i
   · have kX:k≠i:=fun e=>kq (fl.trans e.symm)
     simp only [if_pos fl] at aS;simp only [if_neg kX] at hk;rcases (qb b aS).2 with bT|bT
     · exact aq i k b (fun e=>kX e.symm) bT hk
     · have:=(aa k b hk).2; omega
   · simp only [if_neg fl] at aS;by_cases kX:k=i
     · simp only [if_pos kX] at hk;rcases (qb b hk).2 with bT|bT
       · exact aq j i b fl aS bT
       · have:=(aa j b aS).2; omega
     · simp only [if_neg kX] at hk;exact aq j k b kq aS hk
theorem Sep.new {A:dc R} {F:Nat→Prop} (h:Sep L iN w) (e3:∀ b,R b→b < w.heap.size) (hm:Ext w ah) (bg:A.p F ah) (bO:∀ b,F b→iN b∧w.heap.size≤b∧b < ah.heap.size):Sep (L++[A]) iN ah:=by
 obtain ⟨fe,h1,aa,aq⟩:=h;refine ⟨fun k=>if k=L.length then F else fe k,fun k B eK=>?_,fun k b U=>?_,fun j k b kq aS hk=>?_⟩
 · by_cases hk:k=L.length
   · subst hk;rw [List.getElem?_append_right (Nat.le_refl _)] at eK;simp only [Nat.sub_self,List.getElem?_cons_zero,Option.some.injEq] at eK;subst eK;simp only [if_true]; exact bg
   · simp only [if_neg hk];have gE:=(List.getElem?_eq_some_iff.1 eK).1;simp only [List.length_append,List.length_cons,List.length_nil] at gE;rw [List.getElem?_append_left (by omega)] at eK;exact B.keep (h1 k B eK) hm (fun b U ad=>ad) fun _ _ ad=>ad
 · by_cases hk:k=L.length
   · simp only [if_pos hk] at U;exact ⟨⟨(bO b U).1,fun aB=>by have:=e3 b aB; have:=(bO b U).2.1; omega⟩,(bO b U).2.2⟩
   · simp only [if_neg hk] at U;exact ⟨(aa k b U).1,Nat.lt_of_lt_of_le (aa k b U).2 hm.size⟩
 · by_cases fl:j=L.length
   · have kX:k≠L.length:=fun e=>kq (fl.trans e.symm)
     simp only [if_pos fl] at aS;simp only [if_neg kX] at hk;have:=(aa k b hk).2; have:=(bO b aS).2.1; omega
   · simp only [if_neg fl] at aS;by_cases kX:k=L.length
     · simp only [if_pos kX] at hk;have:=(aa j b aS).2; have:=(bO b hk).2.1; omega
     · simp only [if_neg kX] at hk;exact aq j k b kq aS hk
theorem P3 {α:Type} {L:List α}:∀ (is:List Nat) (k:Nat),(∀ i∈is,i < L.length)→(is.filterMap fun i=>L[i]?)[k]?=(is[k]?).bind fun i=>L[i]?
 | [],k,_=>by simp
 | i::is,0,h=>by
  have:=h i (by simp)
  simp [List.getElem?_eq_getElem this]
 | i::is,k+1,h=>by
  have:=h i (by simp)
  rw [List.filterMap_cons,List.getElem?_eq_getElem this]
  simp only [List.getElem?_cons_succ]
  exact P3 is k fun j aS=>h j (by simp [aS])
theorem Sep.dj (is:List Nat) (h:Sep L iN w) (a':(is.all fun i=>decide (i < L.length))=true) (aI:is.Nodup):Sep (is.filterMap fun i=>L[i]?) iN w:=by
 obtain ⟨fe,h1,aa,aq⟩:=h;have FT:∀ i∈is,i < L.length:=fun i al=>of_decide_eq_true (List.all_eq_true.1 a' i al)
 refine ⟨fun k b=>∃ i,is[k]?=some i∧fe i b,fun k B eK=>?_,fun k b U=>?_,fun j k b kq aS hk=>?_⟩
 · rw [P3 is k FT] at eK;obtain ⟨i,al,eK⟩:=Option.bind_eq_some_iff.1 eK
   have e:(fun b=>∃ i,is[k]?=some i∧fe i b)=fe i:=by
    funext b
    rw [al]
    exact propext ⟨fun ⟨j,aS,U⟩=>by cases aS; exact U,fun U=>⟨i,rfl,U⟩⟩
   show B.p (fun b=>∃ i,is[k]?=some i∧fe i b) w;rw [e]; exact h1 i B eK
 · obtain ⟨i,_,U⟩:=U;exact aa i b U
 · obtain ⟨i,al,JH⟩:=aS;obtain ⟨IX,tt,YR⟩:=hk;refine aq i IX b (fun e=>?_) JH YR;subst e;obtain ⟨ea,q2⟩:=List.getElem?_eq_some_iff.1 al;obtain ⟨fb,fT⟩:=List.getElem?_eq_some_iff.1 tt;exact kq ((List.getElem_inj aI).1 (q2.trans fT.symm))
theorem Sep.imp {i:Nat} {A mA:dc R} (h:Sep L iN w) (e3:∀ b,R b→b < w.heap.size) (al:L[i]?=some A) (bg:∀ F,A.p F w→mA.p F w):Sep (L.set i mA) iN w:=by
 obtain ⟨F,h1,aa,k⟩:=h.act e3 al;exact k w F mA (Mod.refl _ _) (bg F h1) fun b U=>⟨(aa b U).2,.inl U⟩
theorem Sep.two {i j:Nat} {A B:dc R} (h:Sep L iN w) (al:L[i]?=some A) (aS:L[j]?=some B) (aI:i≠j):∃ F G,A.p F w∧B.p G w∧(∀ b,G b→¬ F b):=by
 obtain ⟨fe,h1,aa,aq⟩:=h;exact ⟨fe i,fe j,h1 i A al,h1 j B aS,fun b U ad=>aq i j b aI ad U⟩
end
def bA {R:Nat→Prop} (L:List (dc R)):dc R:=⟨fun F w=>Sep L F w,fun h hm bO e3=>h.keep hm (fun b U _=>bO b U) e3⟩
theorem Sep.close {R:Nat→Prop} {L1 L2:List (dc R)} {iN:Nat→Prop} {w:World} (h:Sep (L1++L2) iN w):Sep (L1++[bA L2]) iN w:=by
 obtain ⟨fe,h1,aa,aq⟩:=h;refine ⟨fun k b=>if k < L1.length then fe k b else k=L1.length∧∃ j,fe (L1.length+j) b,fun k B eK=>?_,fun k b U=>?_,fun j k b kq aS hk=>?_⟩
 · by_cases hk:k < L1.length
   · simp only [if_pos hk];rw [List.getElem?_append_left hk] at eK;exact h1 k B (by rw [List.getElem?_append_left hk]; exact eK)
   · have gE:=(List.getElem?_eq_some_iff.1 eK).1;simp only [List.length_append,List.length_cons,List.length_nil] at gE;have oV:k=L1.length:=(by omega);subst oV;rw [List.getElem?_append_right (Nat.le_refl _)] at eK;simp only [Nat.sub_self,List.getElem?_cons_zero,Option.some.injEq] at eK;subst eK;simp only [Nat.lt_irrefl,if_false,true_and];exact ⟨fun j=>fe (L1.length+j),fun j A bg=>h1 _ A (by rw [List.getElem?_append_right (by omega),Nat.add_sub_cancel_left]; exact bg),fun j b U=>⟨⟨⟨j,U⟩,(aa _ b U).1.2⟩,(aa _ b U).2⟩,fun i j b l5=>aq _ _ b (by omega)⟩
 · by_cases hk:k < L1.length
   · simp only [if_pos hk] at U; exact aa k b U
   · simp only [if_neg hk] at U;obtain ⟨_,j,U⟩:=U;exact aa _ b U
 · by_cases CU:j < L1.length
   · simp only [if_pos CU] at aS;by_cases oV:k < L1.length
     · simp only [if_pos oV] at hk; exact aq j k b kq aS hk
     · simp only [if_neg oV] at hk;obtain ⟨_,m,hk⟩:=hk;exact aq j _ b (by omega) aS hk
   · simp only [if_neg CU] at aS;obtain ⟨e,m,aS⟩:=aS;by_cases oV:k < L1.length
     · simp only [if_pos oV] at hk;exact aq _ k b (by omega) aS hk
     · simp only [if_neg oV] at hk;exact kq (e.trans hk.1.symm)
theorem Sep.open {R:Nat→Prop} {L1 L2:List (dc R)} {iN:Nat→Prop} {w:World} (h:Sep (L1++[bA L2]) iN w):Sep (L1++L2) iN w:=by
 obtain ⟨fe,h1,aa,aq⟩:=h;obtain ⟨P4,g1,g2,g3⟩:=h1 L1.length (bA L2) (by rw [List.getElem?_append_right (Nat.le_refl _)]; simp);refine ⟨fun k=>if k < L1.length then fe k else P4 (k-L1.length),fun k B eK=>?_,fun k b U=>?_,fun j k b kq aS hk=>?_⟩
 · by_cases hk:k < L1.length
   · simp only [if_pos hk];rw [List.getElem?_append_left hk] at eK;exact h1 k B (by rw [List.getElem?_append_left hk]; exact eK)
   · simp only [if_neg hk];rw [List.getElem?_append_right (by omega)] at eK;exact g1 _ B eK
 · by_cases hk:k < L1.length
   · simp only [if_pos hk] at U; exact aa k b U
   · simp only [if_neg hk] at U;exact ⟨(aa _ b (g2 _ b U).1.1).1,(g2 _ b U).2⟩
 · by_cases CU:j < L1.length
   · simp only [if_pos CU] at aS;by_cases oV:k < L1.length
     · simp only [if_pos oV] at hk; exact aq j k b kq aS hk
     · simp only [if_neg oV] at hk;exact aq j L1.length b (by omega) aS (g2 _ b hk).1.1
   · simp only [if_neg CU] at aS;by_cases oV:k < L1.length
     · simp only [if_pos oV] at hk;exact aq L1.length k b (by omega) (g2 _ b aS).1.1 hk
     · simp only [if_neg oV] at hk;exact g3 _ _ b (by omega) aS hk
section
variable {R:Nat→Prop}
def az (b:Nat) (cs:List Value) (e:TypeId):dc R:=⟨fun F w=>ez w b cs e∧F b,fun h hm bO _=>⟨h.1.keep hm (bO b h.2),h.2⟩⟩
def bb {α:Type} (enc:α→List Value) (e:TypeId) (sz:Nat) (v:Value) (l:List α):dc R:=
 ⟨fun F w=>∃ g,Acc enc e sz w g v l∧∀ b,b+1=g→F b,fun ⟨g,h1,aa⟩ hm bO _=>⟨g,h1.keep hm fun b U=>bO b (aa b U.symm),aa⟩⟩
def ff {α:Type} (enc:α→List Value) (vs:List (Value×List α)):dc R:=
 ⟨fun F w=>∀ x∈vs,ak enc w (fun b=>F b∨R b) x.1 x.2,fun h hm bO e3 x ad=>(h x ad).keep hm fun b U=>U.elim (bO b) (e3 b)⟩
def kb {α β:Type} [DecidableEq α] (key:α→Value) (val:β→Value) (b:Nat) (m:List (α×β)):dc R:=
 ⟨fun F w=>lO key val w b m∧F b,fun {F w ah M} h hm bO _=>⟨by
  obtain ⟨⟨es,c,h1,aa⟩,U⟩:=h
  exact ⟨es,c,hm.keep _ _ h1 (bO b U),aa⟩,h.2⟩⟩
def nt {α:Type} (A:α→dc R):dc R:=⟨fun F w=>∃ a,(A a).p F w,fun ⟨a,h⟩ hm bO e3=>⟨a,(A a).keep h hm bO e3⟩⟩
def wg (P:Prop) (A:dc R):dc R:=⟨fun F w=>P∧A.p F w,fun h hm bO e3=>⟨h.1,A.keep h.2 hm bO e3⟩⟩
end
theorem JI {F:Nat→Prop} {b:Nat} {w ah:World} (hm:Mod (b5 (b+1)) w ah) (U:F b):Mod F w ah:=hm.weaken fun rL xn _=>by
 have e:rL=b:=by unfold b5 at xn; omega
 rw [e]; exact U
structure ar (R bB:Nat→Prop) (w0 w:World) (L:List (dc R)):Prop where
 mod:Mod bB w0 w
 u_:∀ b,R b→b < w0.heap.size∧¬ bB b
 sep:Sep L (fun b=>bB b∨w0.heap.size≤b) w
section
variable {R bB:Nat→Prop} {w0 w ah:World} {L:List (dc R)} {i j:Nat} {A B:dc R}
theorem ar.u' (h:ar R bB w0 w L):∀ b,R b→b < w.heap.size:=fun b U=>Nat.lt_of_lt_of_le (h.u_ b U).1 h.mod.size
theorem ar.start (w0:World) (e3:∀ b,R b→b < w0.heap.size):ar R (fun _=>False) w0 w0 []:=⟨Mod.refl _ _,fun b U=>⟨e3 b U,id⟩,⟨fun _ _=>False,fun i A h=>by simp at h,fun _ _ h=>h.elim,fun _ _ _ _ h=>h.elim⟩⟩
theorem ar.hR (w0:World):ar (fun _=>False) (fun _=>False) w0 w0 []:=ar.start w0 fun _ h=>h.elim
theorem ar.nu {F:Nat→Prop} (bg:A.p F w0) (bO:∀ b,F b→b < w0.heap.size∧¬ R b) (e3:∀ b,R b→b < w0.heap.size):ar R F w0 w0 [A]:=⟨Mod.refl _ _,fun b U=>⟨e3 b U,fun h=>(bO b h).2 U⟩,⟨fun i b=>i=0∧F b,fun i B h=>by
 cases i with
 | zero =>
  simp only [List.getElem?_cons_zero,Option.some.injEq] at h
  subst h
  simpa using bg
 | succ i=>simp at h,fun i b h=>⟨⟨.inl h.2,(bO b h.2).2⟩,(bO b h.2).1⟩,fun i j b l5 h1 aa=>l5 (h1.1.trans aa.1.symm)⟩⟩
theorem ar.ext (h:ar R bB w0 w L) (hm:Ext w ah):ar R bB w0 ah L:=⟨h.mod.ext hm,h.u_,h.sep.keep hm (fun _ _ _ x=>x) fun _ _ x=>x⟩
theorem ar.get (h:ar R bB w0 w L) (al:L[i]?=some A):∃ F,A.p F w∧∀ b,F b→b < w.heap.size:=by
 obtain ⟨fe,h1,aa,_⟩:=h.sep;exact ⟨fe i,h1 i A al,fun b U=>(aa i b U).2⟩
theorem ar.act (h:ar R bB w0 w L) (al:L[i]?=some A):∃ F,A.p F w∧(∀ b,F b→((bB b∨w0.heap.size≤b)∧¬ R b)∧b < w.heap.size)∧∀ (ah:World) (F':Nat→Prop) (mA:dc R),Mod F w ah→mA.p F' ah→(∀ b,F' b→b < ah.heap.size∧(F b∨w.heap.size≤b))→ar R bB w0 ah (L.set i mA):=by
 obtain ⟨F,h1,aa,k⟩:=h.sep.act h.u' al;refine ⟨F,h1,aa,fun ah F' mA hm CT qb=>⟨h.mod.then hm fun b U a'=>(aa b U).1.1.resolve_right (by omega),h.u_,k ah F' mA hm CT fun b U=>⟨(qb b U).1,(qb b U).2.imp id fun U=>⟨U,.inr (Nat.le_trans h.mod.size U)⟩⟩⟩⟩
theorem ar.CV (h:ar R bB w0 w L) (al:L[i]?=some A) (aS:L[j]?=some B) (aI:i≠j):∃ F G,A.p F w∧B.p G w∧(∀ b,G b→¬ F b)∧(∀ b,F b→((bB b∨w0.heap.size≤b)∧¬ R b)∧b < w.heap.size)∧(∀ b,G b→b < w.heap.size)∧∀ (ah:World) (F':Nat→Prop) (mA:dc R),Mod F w ah→mA.p F' ah→(∀ b,F' b→b < ah.heap.size∧(F b∨w.heap.size≤b))→ar R bB w0 ah (L.set i mA):=by
 obtain ⟨fe,h1,aa,aq⟩:=h.sep;let iN:Nat→Prop:=fun b=>bB b∨w0.heap.size≤b
 have FU:Sep L iN w:=⟨fe,h1,aa,aq⟩;refine ⟨fe i,fe j,h1 i A al,h1 j B aS,fun b U ad=>aq i j b aI ad U,aa i,fun b U=>(aa j b U).2,fun ah F' mA hm CT qb=>⟨h.mod.then hm fun b U a'=>(aa i b U).1.1.resolve_right (by omega),h.u_,⟨fun k=>if k=i then F' else fe k,fun k B eK=>?_,fun k b U=>?_,fun j k b kq aS hk=>?_⟩⟩⟩
 · by_cases hk:k=i
   · subst hk;rw [List.getElem?_set_self (List.getElem?_eq_some_iff.1 al).1] at eK;simp only [if_true];cases eK; exact CT
   · rw [List.getElem?_set_ne (fun e=>hk e.symm)] at eK;simp only [if_neg hk];exact B.keep (h1 k B eK) hm (fun b U ad=>aq k i b hk U ad) fun b U ad=>(aa i b ad).1.2 U
 · by_cases hk:k=i
   · subst hk;simp only [if_true] at U;obtain ⟨a6,bT⟩:=qb b U;exact ⟨bT.elim (fun h=>(aa k b h).1) (fun U=>⟨.inr (Nat.le_trans h.mod.size U),fun aB=>by have:=h.u' b aB; omega⟩),a6⟩
   · simp only [if_neg hk] at U;exact ⟨(aa k b U).1,Nat.lt_of_lt_of_le (aa k b U).2 hm.size⟩
 · by_cases fl:j=i
   · have kX:k≠i:=fun e=>kq (fl.trans e.symm)
     simp only [if_pos fl] at aS;simp only [if_neg kX] at hk;rcases (qb b aS).2 with bT|bT
     · exact aq i k b (fun e=>kX e.symm) bT hk
     · have:=(aa k b hk).2; omega
   · simp only [if_neg fl] at aS;by_cases kX:k=i
     · simp only [if_pos kX] at hk;rcases (qb b hk).2 with bT|bT
       · exact aq j i b fl aS bT
       · have:=(aa j b aS).2; omega
     · simp only [if_neg kX] at hk;exact aq j k b kq aS hk
theorem ar.new {F:Nat→Prop} (h:ar R bB w0 w L) (hm:Ext w ah) (bg:A.p F ah) (bO:∀ b,F b→w.heap.size≤b∧b < ah.heap.size):ar R bB w0 ah (L++[A]):=
 ⟨h.mod.ext hm,h.u_,h.sep.new h.u' hm bg fun b U=>⟨.inr (Nat.le_trans h.mod.size (bO b U).1),bO b U⟩⟩
theorem ar.dj (is:List Nat) (h:ar R bB w0 w L) (a':(is.all fun i=>decide (i < L.length))=true) (aI:is.Nodup):ar R bB w0 w (is.filterMap fun i=>L[i]?):=⟨h.mod,h.u_,h.sep.dj is a' aI⟩
theorem ar.imp {mA:dc R} (h:ar R bB w0 w L) (al:L[i]?=some A) (bg:∀ F,A.p F w→mA.p F w):ar R bB w0 w (L.set i mA):=⟨h.mod,h.u_,h.sep.imp h.u' al bg⟩
theorem ar.close {L1 L2:List (dc R)} (h:ar R bB w0 w (L1++L2)):ar R bB w0 w (L1++[bA L2]):=⟨h.mod,h.u_,h.sep.close⟩
theorem ar.open {L1 L2:List (dc R)} (h:ar R bB w0 w (L1++[bA L2])):ar R bB w0 w (L1++L2):=⟨h.mod,h.u_,h.sep.open⟩
theorem ar.fin (h:ar R bB w0 w [A]):Mod bB w0 w∧∃ F',A.p F' w∧∀ b,F' b→b < w.heap.size∧(bB b∨w0.heap.size≤b):=by
 obtain ⟨fe,h1,aa,_⟩:=h.sep;exact ⟨h.mod,fe 0,h1 0 A rfl,fun b U=>⟨(aa 0 b U).2,(aa 0 b U).1.1⟩⟩
theorem ar.iO {α:Type} {A:α→dc R} (h:ar R bB w0 w L) (al:L[i]?=some (nt A)):∃ a,ar R bB w0 w (L.set i (A a)):=by
 obtain ⟨F,⟨a,ao⟩,aa,k⟩:=h.act al;exact ⟨a,k w F (A a) (Mod.refl _ _) ao fun b U=>⟨(aa b U).2,.inl U⟩⟩
theorem ar.hJ {α:Type} {A:α→dc R} (h:ar R bB w0 w L) (a:α) (al:L[i]?=some (A a)):ar R bB w0 w (L.set i (nt A)):=h.imp al fun F x=>⟨a,x⟩
theorem ar.YS {b:Nat} {cs:List Value} {e:TypeId} (h:ar R bB w0 w L) (al:L[i]?=some (az b cs e)):ez w b cs e:=by
 obtain ⟨F,h1,_⟩:=h.get al; exact h1.1
theorem ar.cL {b:Nat} {cs cs':List Value} {e:TypeId} (h:ar R bB w0 w L) (al:L[i]?=some (az b cs e)) (hm:Mod (b5 (b+1)) w ah) (hk:ez ah b cs' e):ar R bB w0 ah (L.set i (az b cs' e)):=by
 obtain ⟨F,h1,aa,k⟩:=h.act al;exact k ah F _ (JI hm h1.2) ⟨hk,h1.2⟩ fun b U=>⟨Nat.lt_of_lt_of_le (aa b U).2 hm.size,.inl U⟩
theorem ar.dm {b:Nat} {cs:List Value} {e:TypeId} (h:ar R bB w0 w L) (hm:Ext w ah) (U:b=w.heap.size) (hk:ez ah b cs e):ar R bB w0 ah (L++[az b cs e]):=
 h.new (F:=fun x=>x=b) hm ⟨hk,rfl⟩ fun x ad=>by have:=hk.lt; omega
theorem ar.map {α β:Type} [DecidableEq α] {key:α→Value} {val:β→Value} {b:Nat} {m:List (α×β)} (h:ar R bB w0 w L) (al:L[i]?=some (kb key val b m)):lO key val w b m:=by
 obtain ⟨F,h1,_⟩:=h.get al; exact h1.1
theorem ar.kG {α β:Type} [DecidableEq α] {key:α→Value} {val:β→Value} {b:Nat} {m rF:List (α×β)} (h:ar R bB w0 w L) (al:L[i]?=some (kb key val b m)) (hm:Mod (b5 (b+1)) w ah) (hk:lO key val ah b rF):ar R bB w0 ah (L.set i (kb key val b rF)):=by
 obtain ⟨F,h1,aa,k⟩:=h.act al;exact k ah F _ (JI hm h1.2) ⟨hk,h1.2⟩ fun b U=>⟨Nat.lt_of_lt_of_le (aa b U).2 hm.size,.inl U⟩
theorem ar.P5 {α β:Type} [DecidableEq α] {key:α→Value} {val:β→Value} {b:Nat} {m:List (α×β)} (h:ar R bB w0 w L) (hm:Ext w ah) (U:b=w.heap.size) (hk:lO key val ah b m):ar R bB w0 ah (L++[kb key val b m]):=
 h.new (F:=fun x=>x=b) hm ⟨hk,rfl⟩ fun x ad=>by have:=hk.lt; omega
section
variable {α:Type} {enc:α→List Value} {e:TypeId} {sz:Nat} {v:Value} {l:List α}
theorem Acc.uniq {g e':Nat} {ah:World} (h:Acc enc e sz w g v l) {nN:TypeId} {YT:Nat} {kE:List α} (gx:Acc enc nN YT ah e' v kE):g=e':=by
 rcases h with ⟨h1,_,aa⟩|⟨b,cap,cur,a8,h1,_⟩<;>rcases gx with ⟨bw,_,cB⟩|⟨rL,akk,akl,tG,bw,_⟩
 · omega
 · rw [h1] at bw; simp at bw
 · rw [h1] at bw; simp at bw
 · rw [h1] at bw;simp only [Value.slice.injEq,Option.some.injEq,Addr.mk.injEq] at bw;omega
theorem ar.bU (h:ar R bB w0 w L) (al:L[i]?=some (bb enc e sz v l)):∃ g,Acc enc e sz w g v l∧g≤w.heap.size∧∀ (ah:World) (e':Nat) (g_:Value) (kE:List α),Mod (b5 g) w ah→Acc enc e sz ah e' g_ kE→(e'=g∨w.heap.size < e')→ar R bB w0 ah (L.set i (bb enc e sz g_ kE)):=by
 obtain ⟨F,⟨g,h1,aq⟩,aa,k⟩:=h.act al;refine ⟨g,h1,h1.lt,fun ah e' g_ kE hm ao aO=>k ah (fun b=>b+1=e') _ (hm.weaken fun b U _=>aq b U) ⟨e',ao,fun b U=>U⟩ fun b U=>⟨?_,?_⟩⟩
 · have:=ao.lt; omega
 · rcases aO with aO|aO
   · exact .inl (aq b (by omega))
   · exact .inr (by omega)
theorem ar.fU {g:Nat} (h:ar R bB w0 w L) (hm:Ext w ah) (ao:Acc enc e sz ah g v l) (aO:g=0∨w.heap.size < g):ar R bB w0 ah (L++[bb enc e sz v l]):=
 h.new (F:=fun b=>b+1=g) hm ⟨g,ao,fun b U=>U⟩ fun b U=>by have:=ao.lt; omega
theorem ar.ne {b g:Nat} {cs:List Value} {nN:TypeId} (h:ar R bB w0 w L) (al:L[i]?=some (bb enc e sz v l)) (aS:L[j]?=some (az b cs nN)) (l5:i≠j) (ao:Acc enc e sz w g v l):b+1≠g:=by
 obtain ⟨F,G,⟨e',h1,aa⟩,aq,a6⟩:=h.sep.two al aS l5;have:=ao.uniq h1;subst this;intro e;exact a6 b aq.2 (aa b e)
theorem ar.bl {vs:List (Value×List α)} {k:Nat} (h:ar R bB w0 w L) (al:L[i]?=some (ff enc vs)) (hk:vs[k]?=some (v,l)):ak enc w (aR 0 w.heap.size) v l:=by
 obtain ⟨F,h1,aa⟩:=h.get al;exact (h1 _ (List.mem_of_getElem? hk)).mono fun b U=>⟨Nat.zero_le _,U.elim (aa b) (h.u' b)⟩
theorem ar.FV (h:ar R bB w0 w L) (hm:Ext w ah) (aF:ak enc ah (aR w.heap.size ah.heap.size) v l):ar R bB w0 ah (L++[ff enc [(v,l)]]):=
 h.new (F:=aR w.heap.size ah.heap.size) hm (fun x ad=>by simp only [List.mem_singleton] at ad; subst ad; exact aF.mono fun b U=>.inl U) fun b U=>U
theorem ar.iD {b:Nat} (h:ar R bB w0 w L) (hm:Ext w ah) (U:b=w.heap.size) (b':ah.heap.size=w.heap.size+1) (aF:ak enc ah (aR b (b+1)) v l):ar R bB w0 ah (L++[ff enc [(v,l)]]):=
 h.FV hm (aF.mono fun x ad=>by unfold aR at *; omega)
theorem ak.eH {F:Nat→Prop} (h:ak enc w F v l) {P:Program} {t:TypeId} {by_:Nat} {g:Bool} {z:List Value} (aQ:P.underlying t=some (.slice e)) (he:dX P e=some (g,sz,by_,z)) (dr:∀ x,(enc x).length=sz) {k:IntKind} {n:Int} (i:Nat) (aI:n=(i:Int)) (al:i < l.length) :
 ∃ x b off,l[i]?=some x∧(∀ w,(Instr.indexAt t v (.int k n)).run P w=.ok (ptr b off) w)∧F b∧Row w b off (enc x):=by
 obtain ⟨b,off,h1,aa,aq⟩:=h.at aQ he dr (k:=k) i aI al;exact ⟨l[i],b,off,by simp,h1,aa,aq⟩
theorem ak.rowAt {F:Nat→Prop} (h:ak enc w F v l) {P:Program} {t:TypeId} {by_:Nat} {g:Bool} {z:List Value} (aQ:P.underlying t=some (.slice e)) (he:dX P e=some (g,sz,by_,z)) (dr:∀ x,(enc x).length=sz) {k:IntKind} {n:Int} (i:Nat) (aI:n=(i:Int)) {x:α} {b off:Nat} (ad:l[i]?=some x)
 (aB:∀ w,(Instr.indexAt t v (.int k n)).run P w=.ok (ptr b off) w):Row w b off (enc x):=by
 obtain ⟨YU,rL,OD,rV,Ja,_,va⟩:=h.eH aQ he dr (k:=k) i aI (List.getElem?_eq_some_iff.1 ad).1;have fw:=(aB w).symm.trans (Ja w);simp only [ptr,Result.ok.injEq,Value.pointer.injEq,Option.some.injEq,Addr.mk.injEq,and_true] at fw;obtain ⟨rfl,rfl⟩:=fw;rw [ad] at rV;cases rV;exact va
theorem ar.freeze (h:ar R bB w0 w L) (al:L[i]?=some (bb enc e sz v l)):ar R bB w0 w (L.set i (ff enc [(v,l)])):=
 h.imp al fun F ad x rV=>by
  obtain ⟨g,h1,aa⟩:=ad
  simp only [List.mem_singleton] at rV
  subst rV
  refine h1.bl.mono fun b U=>?_
  rcases h1 with ⟨_,_,a6⟩|⟨rL,cap,cur,a8,_⟩
  · unfold aR at U; omega
  · exact .inl (aa b (by unfold aR at U; omega))
theorem ar.YV {G:Nat→Prop} (h:ar R bB w0 w L) (aF:ak enc w0 G v l) (cC:∀ b,G b→R b):ar R bB w0 w (L++[ff enc [(v,l)]]):=
 h.new (F:=fun _=>False) (Mod.refl _ _) (fun x ad=>by
  simp only [List.mem_singleton] at ad
  subst ad
  exact (aF.keep h.mod fun b U=>(h.u_ b (cC b U)).2).mono fun b U=>.inr (cC b U)) fun _ U=>U.elim
end
end
section
variable {w0 w:World} {R:Nat→Prop} {P6:List (dc (fun _=>False))} {L:List (dc R)} {i:Nat} {α:Type} {enc:α→List Value} {e:TypeId} {sz:Nat} {v:Value} {l:List α}
theorem ar.JJ {vs:List (Value×List α)} {k:Nat} (h:ar (fun _=>False) (fun _=>False) w0 w P6) (al:P6[i]?=some (ff enc vs)) (hk:vs[k]?=some (v,l)):ak enc w (aR w0.heap.size w.heap.size) v l:=by
 obtain ⟨F,h1,aa,_⟩:=h.act al;exact (h1 _ (List.mem_of_getElem? hk)).mono fun b U=>⟨(aa b (U.resolve_right id)).1.1.resolve_left fun x=>x,(aa b (U.resolve_right id)).2⟩
theorem ar.vb (h:ar R (fun _=>False) w0 w L) (al:L[i]?=some (bb enc e sz v l)):∃ g,Acc enc e sz w g v l∧(g=0∨w0.heap.size < g):=by
 obtain ⟨F,⟨g,h1,aq⟩,aa,_⟩:=h.act al;refine ⟨g,h1,?_⟩;rcases (by omega:g=0∨0 < g) with aO|aO
 · exact .inl aO
 · have:=(aa (g-1) (aq _ (by omega))).1.1.resolve_left fun x=>x
   exact .inr (by omega)
theorem ar.YW (h:ar R (fun _=>False) w0 w L) (al:L[i]?=some (bb enc e sz v l)):ak enc w (aR w0.heap.size w.heap.size) v l:=by
 obtain ⟨g,h1,aa⟩:=h.vb al;exact h1.fresh aa
end
theorem ar.out {R bB G:Nat→Prop} {w0 w:World} {L:List (dc R)} {α:Type} {enc:α→List Value} {v:Value} {l:List α} (h:ar R bB w0 w L) (aF:ak enc w0 G v l) (cC:∀ b,G b→¬ bB b):ak enc w G v l:=aF.keep h.mod cC
end Go.aA
namespace Go.aA
open Go
def oY {R:Nat→Prop} {α:Type} (qa e:TypeId) (sz:Nat) (enc:α→List Value) (eu:Nat) (l:List α):dc R:=nt fun v:Value=>bA [az eu [v] qa,bb enc e sz v l]
end Go.aA
set_option linter.unusedSectionVars false
namespace Go.aA
open Go
section
variable {P:Program} {E:Env} {C:World→Prop} {d:Option Tmp} {ty:TypeId} {pos:String} {af:Array Edge} {gd:Option (Nat×Bool)} {w:World} {K:Value→World→Prop}
theorem aY.A2 {x y:Operand} {xt yt:TypeId} {p q:Int} (r:Int) (ad:aC E x=some (.int .i32 p)) (av:aC E y=some (.int .i32 q)) (aB:0≤p∧p≤2147483647∧1≤q∧p / q=r):aY P ⟨d,.binOp .quo xt x y yt,ty,pos,af,gd⟩ E C (.int .i32 r):=by
 have h:=aY.quo (P:=P) (C:=C) (d:=d) (xt:=xt) (yt:=yt) (ty:=ty) (pos:=pos) (af:=af) (gd:=gd) ad av (by omega)
 have e:IntKind.i32.wrap (p.tdiv q)=r:=by
  rw [Int.tdiv_eq_ediv_of_nonneg aB.1,aB.2.2.2]
  have a8:=Int.ediv_nonneg aB.1 (by omega:0≤q)
  have h1:=Int.ediv_le_self q aB.1
  exact IntWalk.i32_in _ (by omega)
 rw [e] at h; exact h
theorem YX {b off:Nat} {l:ag} (aB:Row w b off (l.flatMap dR)) (j:Nat) (aS:j < l.length):w.cell? ((⟨b,off,none⟩:Addr).add j)=some (.int .u8 (l[j].toNat:Int)):=by
 have bd:l.flatMap dR=l.map fun c=>Value.int .u8 (c.toNat:Int):=by
  clear aB aS
  induction l with
  | nil=>rfl
  | cons a l bq=>simp [dR,bq]
 rw [add_lit];exact aB.cell j _ (by rw [bd,List.getElem?_map,List.getElem?_eq_getElem aS]; rfl)
theorem gl.zo {s t e:TypeId} {x:Operand} {v:Value} {F:Nat→Prop} {l:ag} (aF:P.underlying s=some (.slice e)) (he:P.underlying e=some (.int .u8)) (aQ:P.underlying t=some .string) (ad:aC E x=some v) (h:ak dR w F v l) (eC:K (aH l) w) :
 gl P ⟨d,.convert s t x,ty,pos,af,gd⟩ E w K:=fun a ao=>by
 obtain ⟨zp,cap,rfl,aa,aq,a6⟩:=h
 have aB:(convert s t (.slice zp l.length cap)).run P w=.ok (aH l) w:=by
  rcases a6 with rfl|⟨b,off,rfl,_,aB⟩
  · show (convert s t (.slice zp 0 cap)).run P w=_
    rw [run_convert_bytes_string w s t e zp 0 cap aF he aQ]
    cases zp<;>simp [Conv.bytesToString,loadCells,loadCellsFrom,aH]<;>rfl
  · exact run_convert_bytes_back w s t e _ cap l aF he aQ (YX aB)
 simp [execOp,ao.aC ad,aB,out]
 exact eC
end
end Go.aA
namespace Go.aA
open Go
def fK (n:Int):UInt8:=UInt8.ofNat (n % 256).toNat
theorem tH (n:Int):((fK n).toNat:Int)=n % 256:=by
 have a8:=Int.emod_nonneg n (by omega:(256:Int)≠0);have h1:=Int.emod_lt_of_pos n (by omega:(0:Int) < 256);unfold fK;rw [UInt8.toNat_ofNat'];omega
theorem YY (n:Nat):fK (n:Int)=UInt8.ofNat n:=by
 apply UInt8.toNat_inj.1;have:=tH (n:Int);rw [UInt8.toNat_ofNat'];omega
section
variable {P:Program} {E:Env} {C:World→Prop} {d:Option Tmp} {ty:TypeId} {pos:String} {af:Array Edge} {gd:Option (Nat×Bool)} {w:World} {K:Value→World→Prop}
theorem aY.rW {s t:TypeId} {x:Operand} {k:IntKind} {p:Int} (aF:(P.underlying s).isSome=true) (aQ:P.underlying t=some (.int .u8)) (ad:aC E x=some (.int k p)):aY P ⟨d,.convert s t x,ty,pos,af,gd⟩ E C (.int .u8 ((fK p).toNat:Int)):=by
 have h:=aY.rK (P:=P) (C:=C) (d:=d) (ty:=ty) (pos:=pos) (af:=af) (gd:=gd) aF aQ ad;have e:IntKind.u8.wrap p=((fK p).toNat:Int):=(by rw [tH,IntKind.wrap_u8]);rw [e] at h; exact h
end
end Go.aA
namespace Go.aA
open Go
theorem vc {a b:Nat} (ao:a < 4294967296) (U:b < 4294967296):a ^^^ b < 4294967296:=Nat.xor_lt_two_pow (n:=32) ao U
theorem FW {a:Nat} (ao:a < 4294967296):4294967295 ^^^ a=4294967295-a:=by
 have h:(4294967295 ^^^ a)=(BitVec.ofNat 32 4294967295 ^^^ BitVec.ofNat 32 a).toNat:=by
  rw [BitVec.toNat_xor,BitVec.toNat_ofNat,BitVec.toNat_ofNat,Nat.mod_eq_of_lt (by omega:a < 2 ^ 32)]
 have aa:BitVec.ofNat 32 4294967295=BitVec.allOnes 32:=rfl;rw [h,aa,BitVec.allOnes_xor,BitVec.toNat_not,BitVec.toNat_ofNat,Nat.mod_eq_of_lt (by omega:a < 2 ^ 32)]
theorem YZ {a b:Nat} (U:b < 256):a*256 ||| b=a*256+b:=by
 have:=Nat.shiftLeft_add_eq_or_of_lt (i:=8) (b:=b) (by omega) a;rw [Nat.shiftLeft_eq] at this;exact this.symm
section
variable {P:Program} {E:Env} {C:World→Prop} {d:Option Tmp} {ty:TypeId} {pos:String} {af:Array Edge} {gd:Option (Nat×Bool)} {xt yt:TypeId} {x y:Operand}
theorem aY.JK {a b:Nat} (ad:aC E x=some (.int .u32 (a:Int))) (av:aC E y=some (.int .u32 (b:Int))) (ao:a < 4294967296) (U:b < 4294967296):aY P ⟨d,.binOp .xor xt x y yt,ty,pos,af,gd⟩ E C (.int .u32 ((a ^^^ b:Nat):Int)):=fun s aF w _=>by
 have h:=u32_xor_nat a b ao U
 simp [execOp,aF.aC ad,aF.aC av,eqGuard,Go.binOp,intBits_xor,h]
theorem aY.Y0 {a b:UInt8} (ad:aC E x=some (.int .u8 (a.toNat:Int))) (av:aC E y=some (.int .u8 (b.toNat:Int))):aY P ⟨d,.binOp .xor xt x y yt,ty,pos,af,gd⟩ E C (.int .u8 ((a ^^^ b).toNat:Int)):=fun s aF w _=>by
 have h:=u8_xor_nat a.toNat b.toNat a.toNat_lt b.toNat_lt
 rw [←UInt8.toNat_xor] at h
 simp [execOp,aF.aC ad,aF.aC av,eqGuard,Go.binOp,intBits_xor,h]
theorem aY.Y1 {p q:Int} (r:Int) (ad:aC E x=some (.int .u64 p)) (av:aC E y=some (.int .u64 q)) (aB:p+q=r∧0≤r∧r≤18446744073709551615):aY P ⟨d,.binOp .add xt x y yt,ty,pos,af,gd⟩ E C (.int .u64 r):=by
 have h:=aY.add (P:=P) (C:=C) (d:=d) (xt:=xt) (yt:=yt) (ty:=ty) (pos:=pos) (af:=af) (gd:=gd) ad av;rw [IntWalk.u64_in _ (by omega),aB.1] at h; exact h
theorem aY.Y2 {a:Nat} (ad:aC E x=some (.int .u32 (a:Int))) (av:aC E y=some (.int .u32 1)) (ao:a < 4294967296):aY P ⟨d,.binOp .and xt x y yt,ty,pos,af,gd⟩ E C (.int .u32 ((a % 2:Nat):Int)):=fun s aF w _=>by
 have h:=u32_and_nat a 1 ao (by omega)
 rw [Nat.and_one_is_mod] at h
 have gx:bits .and .u32 (a:Int) 1=((a % 2:Nat):Int):=h
 simp [execOp,aF.aC ad,aF.aC av,eqGuard,Go.binOp,intBits_and,gx]
theorem aY.P7 {a b:Nat} (ad:aC E x=some (.int .u64 ((a*256:Nat):Int))) (av:aC E y=some (.int .u64 (b:Int))) (ao:a*256 < 18446744073709551616) (U:b < 256):aY P ⟨d,.binOp .or xt x y yt,ty,pos,af,gd⟩ E C (.int .u64 ((a*256+b:Nat):Int)):=fun s aF w _=>by
 have h:=u64_or_nat (a*256) b ao (by omega)
 rw [YZ U] at h
 simp [execOp,aF.aC ad,aF.aC av,eqGuard,Go.binOp,intBits_or]
 simpa using h
theorem aY.FW {a:Nat} (ad:aC E x=some (.int .u32 (a:Int))) (ao:a < 4294967296):aY P ⟨d,.unOp .xor xt x,ty,pos,af,gd⟩ E C (.int .u32 ((4294967295-a:Nat):Int)):=fun s aF w _=>by
 have h:=u32_xor_nat 4294967295 a (by omega) ao
 rw [aA.FW ao] at h
 have gx:bits .xor .u32 4294967295 (a:Int)=((4294967295-a:Nat):Int):=h
 simp [execOp,aF.aC ad,Op.unary,intBits_xor,IntKind.signed,IntKind.max]
 exact gx
theorem aY.JL {k iy:IntKind} {p m:Int} (n:Nat) (ad:aC E x=some (.int k p)) (av:aC E y=some (.int iy m)) (hm:m=(n:Int)) (aI:n≤k.bits):aY P ⟨d,.binOp .shr xt x y yt,ty,pos,af,gd⟩ E C (.int k (p / 2 ^ n)):=fun s aF w _=>by
 subst hm
 have h:=shift_shr k iy p (n:Int) (by omega) (by omega)
 simp [execOp,aF.aC ad,aF.aC av,eqGuard,Go.binOp,h]
theorem aY.Y3 {a b:Nat} (ad:aC E x=some (.int .u32 (a:Int))) (av:aC E y=some (.int .u32 (b:Int))) (U:b≤a) (ao:a < 4294967296):aY P ⟨d,.binOp .sub xt x y yt,ty,pos,af,gd⟩ E C (.int .u32 ((a-b:Nat):Int)):=by
 have h:=aY.sub (P:=P) (C:=C) (d:=d) (xt:=xt) (yt:=yt) (ty:=ty) (pos:=pos) (af:=af) (gd:=gd) ad av;rw [IntWalk.u32_in _ (by omega),show (a:Int)-(b:Int)=((a-b:Nat):Int) from by omega] at h; exact h
theorem aY.P8 {iy:IntKind} {a:Nat} (ad:aC E x=some (.int .u64 (a:Int))) (av:aC E y=some (.int iy 8)) (ao:a*256 < 18446744073709551616):aY P ⟨d,.binOp .shl xt x y yt,ty,pos,af,gd⟩ E C (.int .u64 ((a*256:Nat):Int)):=fun s aF w _=>by
 have h:=shift_shl .u64 iy (a:Int) 8 (by omega) (by decide)
 have e:IntKind.u64.wrap ((a:Int)*2 ^ (8:Int).toNat)=((a*256:Nat):Int):=by
  rw [IntKind.wrap_u64]
  have:((a:Int)*2 ^ (8:Int).toNat)=((a*256:Nat):Int):=by simp
  rw [this]; omega
 rw [e] at h
 simp [execOp,aF.aC ad,aF.aC av,eqGuard,Go.binOp,h]
theorem aY.Y4 {a:Nat} (b:Nat) (ad:aC E x=some (.int .u32 (a:Int))) (av:aC E y=some (.int .u32 (b:Int))) (U:b≠0) (ao:a < 4294967296):aY P ⟨d,.binOp .quo xt x y yt,ty,pos,af,gd⟩ E C (.int .u32 ((a / b:Nat):Int)):=by
 have h:=aY.quo (P:=P) (C:=C) (d:=d) (xt:=xt) (yt:=yt) (ty:=ty) (pos:=pos) (af:=af) (gd:=gd) ad av (by omega)
 have e:IntKind.u32.wrap ((a:Int).tdiv (b:Int))=((a / b:Nat):Int):=by
  rw [Int.tdiv_eq_ediv_of_nonneg (by omega),←Int.natCast_ediv]
  have:=Nat.div_le_self a b
  generalize a / b=q at *
  exact IntWalk.u32_in _ (by omega)
 rw [e] at h; exact h
end
end Go.aA
namespace Go.aA
open Go
section
variable {P:Program} {E:Env} {d:Option Tmp} {ty:TypeId} {pos:String} {af:Array Edge} {gd:Option (Nat×Bool)} {w:World} {K:Value→World→Prop}
theorem gl.Y5 {s e nN:TypeId} {x:Operand} {b n c:Nat} {cs:List Value} (aF:P.underlying s=some (.slice e)) (he:P.underlying e=some (.int .u8)) (ad:aC E x=some (.slice (some ⟨b,0,none⟩) n c)) (U:ez w b cs nN)
 (eC:∀ ah,Mod (b5 (b+1)) w ah→ah.heap.size=w.heap.size→Row ah b 0 cs→K (.slice (some ⟨b,0,none⟩) n c) ah):gl P ⟨d,.convert s s x,ty,pos,af,gd⟩ E w K:=fun a ao=>by
 have wh:w.shape? b=some (nN,cs.length):=by
  unfold World.shape?
  rw [show w.heap[b]?=some (.cells cs.toArray nN (0,0)) from U]
  simp
 have aB:(convert s s (.slice (some ⟨b,0,none⟩) n c)).run P w=.ok (.slice (some ⟨b,0,none⟩) n c) (w.freeze ⟨b,cs.length,none⟩ 1):=by
  simp [convert,run_underlying aF,run_underlying he,markStringish,wh]
 have fC:(w.freeze ⟨b,cs.length,none⟩ 1).heap[b]?=some (.cells cs.toArray nN (cs.length,cs.length+1)):=by
  unfold World.freeze
  rw [if_neg (by decide)]
  simp only [Array.getElem?_modify,if_true]
  rw [show w.heap[b]?=some (.cells cs.toArray nN (0,0)) from U]
  rfl
 simp [execOp,ao.aC ad,aB,out]
 refine eC _ ⟨rfl,rfl,rfl,?_,?_⟩ ?_ ?_
 · unfold World.freeze
   rw [if_neg (by decide)]
   simp
 · intro rL o dJ aI
   unfold World.freeze
   rw [if_neg (by decide)]
   simp only [Array.getElem?_modify]
   rw [if_neg (fun e=>aI (by unfold b5; omega))]
   exact dJ
 · unfold World.freeze
   rw [if_neg (by decide)]
   simp
 · intro i v bG
   unfold World.cell?
   simp only [Option.isSome_none,Bool.false_eq_true,if_false]
   rw [fC]
   simpa using bG
end
theorem ak.Y6 {α:Type} {enc:α→List Value} {w:World} {b:Nat} {l:List α} (h:Row w b 0 (l.flatMap enc)) (n:Nat) (aI:n=l.length) (hm:n≤maxLen):ak enc w (aR b (b+1)) (.slice (some ⟨b,0,none⟩) n n) l:=
 ⟨some ⟨b,0,none⟩,n,by rw [aI],by omega,hm,.inr ⟨b,0,rfl,⟨Nat.le_refl _,by omega⟩,h⟩⟩
end Go.aA
namespace Go.ab
open Go.aA
theorem JM (s:ag) (l:List ag):h0 (s::l)=s.length+h0 l:=by simp [h0]
theorem P9 (a b:List ag):h0 (a++b)=h0 a+h0 b:=by simp [h0]
theorem Y7 (p:ag) (l:List ag):h0 (l.map (p++·))=l.length*p.length+h0 l:=by
 induction l with
 | nil=>simp [h0]
 | cons s l bq=>simp only [List.map_cons,JM,bq,List.length_append,List.length_cons,Nat.add_mul,Nat.one_mul]; omega
theorem P_ {p:ag} (hp:1≤p.length) (l:List ag):h0 (ee p l)+(ee p l).length+h0 (ka p l)≤h0 l:=by
 have h:=congrArg h0 (CJ p l);rw [P9,Y7] at h;have:=Nat.mul_le_mul_left (ee p l).length hp;omega
theorem P' (p:ag) (l:List ag):(ee p l).length+(ka p l).length=l.length:=by
 have h:=congrArg List.length (CJ p l);rw [List.length_append,List.length_map] at h; exact h
theorem FX (l:List ag):h0 (eZ l)=h0 l:=by
 cases l with
 | nil=>rfl
 | cons a r=>cases a<;>simp [eZ,h0]
theorem CW (l:List ag):(eZ l).length≤l.length:=by
 cases l with
 | nil=>simp [eZ]
 | cons a r=>cases a<;>simp [eZ]
def A3 (gs:List (Nat×List ag)):Nat:=(gs.map fun g=>h0 g.2+1).sum
theorem Qa:∀ (n:Nat) (l:List ag),l.length≤n→fD l→(∀ s∈l,s≠[])→A3 (ga l)≤h0 l
 | _,[],_,_,_=>by simp [za,A3]
 | 0,s::r,h,_,_=>by simp at h
 | n+1,s::r,aI,h,cA=>by
  have a':=y' s r
  simp only [List.length_cons] at aI
  have aF:=cA s (by simp)
  have bd:=h.my s (by simp)
  have hp:cU s=du (fm s):=(xw aF ((xx aF).1 bd).1).2.symm
  have bq:=Qa n (ka (cU s) (s::r)) (by omega) (h.more _) (fun t aQ=>cA t ((List.dropWhile_suffix _).subset aQ))
  have h1:=P_ (p:=cU s) (by rw [hp]; exact Pl _) (s::r)
  have aa:1≤(ee (cU s) (s::r)).length:=by
   unfold ee
   rw [List.takeWhile_cons,if_pos (y_ s)]; simp
  rw [AU]
  unfold A3 at bq ⊢
  simp only [List.map_cons,List.sum_cons]
  omega
theorem Qb {add:ch→List ag→ch×Nat}:∀ (gs:List (Nat×List ag)) (s:ch),(∀ g∈gs,∀ s,(add s g.2).1.length≤s.length+1+h0 g.2)→(kt add s gs).1.length≤s.length+A3 gs
 | [],s,_=>by simp [kt,A3]
 | g::gs,s,h=>by
  have h1:=h g (by simp) s
  have aa:=Qb gs (add s g.2).1 (fun e' rQ=>h e' (by simp [rQ]))
  show (kt add (add s g.2).1 gs).1.length≤_
  unfold A3 at aa ⊢
  simp only [List.map_cons,List.sum_cons]
  omega
theorem xD:∀ (f:Nat) (s:ch) (ay:List ag),fD ay→(eh f s ay).1.length≤s.length+1+h0 ay
 | 0,s,ay,_=>by simp [eh]; omega
 | f+1,s,ay,aO=>by
  unfold eh
  cases al:s.findIdx? fun x=>x.1==ay with
  | some i=>simp; omega
  | none =>
   simp only [List.length_set]
   have hd:=tC aO
   have ok:=wa _ _ (Nat.le_refl _) hd.1 hd.2
   have h1:=Qb (add:=eh f) (ga (eZ ay)) (s++[(ay,[])]) (fun g hI iz=>xD f iz g.2 (ok.eQ g hI).2.2)
   have aa:=Qa _ _ (Nat.le_refl _) hd.1 hd.2
   rw [FX] at aa
   simp only [List.length_append,List.length_cons,List.length_nil] at h1
   omega
theorem FY {f:Nat} {s:ch} {ay:List ag} (hd:Deep f ay) (aO:fD ay) (cA:ay≠[]) (aI:(names s).Nodup) (c7:u5 s):u5 (eh (f+1) s ay).1∧(names (eh (f+1) s ay).1).Nodup:=by
 have h:=zd f s ay hd aO cA aI;obtain ⟨t,e,k⟩:=h.tail;refine ⟨fun x ad=>?_,h.apart⟩;rw [e] at ad;rcases List.mem_append.1 ad with ad|ad
 · exact c7 x ad
 · exact ⟨(k x ad).ne,(k x ad).eQ.CN⟩
theorem A4 {f:Nat} {s:ch} {ay:List ag} (hd:Deep f ay) (aO:fD ay) (cA:ay≠[]) (aI:(names s).Nodup):(eh (f+1) s ay).2 < (eh (f+1) s ay).1.length:=by
 obtain ⟨es,h⟩:=(zd f s ay hd aO cA aI).here;exact (List.getElem?_eq_some_iff.1 h).1
def ll (f:Nat) (pv:ch) (rX:List (Nat×List ag)) (pw:ch) (dw:List bm) (df:List ag):Prop:=
 kt (eh f) pv rX=((kt (eh f) pw (ga df)).1,dw++(kt (eh f) pw (ga df)).2)
theorem ll.start (f:Nat) (pv:ch) (r:List ag):ll f pv (ga r) pv [] r:=by unfold ll; simp
theorem ll.next {f:Nat} {pv:ch} {rX:List (Nat×List ag)} {pw:ch} {dw:List bm} {s:ag} {r:List ag} (h:ll f pv rX pw dw (s::r)) :
 ll f pv rX (eh f pw (ee (cU s) (s::r))).1 (dw++[⟨(fm s:Int),((eh f pw (ee (cU s) (s::r))).2:Int)⟩]) (ka (cU s) (s::r)):=by
 unfold ll at h ⊢;rw [h,AU];simp only [kt,List.append_assoc,List.cons_append,List.nil_append]
theorem ll.fin {f:Nat} {pv:ch} {rX:List (Nat×List ag)} {pw:ch} {dw:List bm} (h:ll f pv rX pw dw []):kt (eh f) pv rX=(pw,dw):=by
 unfold ll at h; rw [h,za]; simp [kt]
theorem FZ {f:Nat} {s:ch} {ay:List ag} {i:Nat} (h:(s.findIdx? fun x=>x.1==ay)=some i):eh (f+1) s ay=(s,i):=by
 unfold eh; rw [h]
theorem JN {f:Nat} {s xs:ch} {ay:List ag} {dw:List bm} (h:(s.findIdx? fun x=>x.1==ay)=none) (he:kt (eh f) (s++[(ay,[])]) (ga (eZ ay))=(s++(ay,[])::xs,dw)):eh (f+1) s ay=(s++(ay,dw)::xs,s.length):=by
 unfold eh; rw [h];simp only [he];rw [List.set_append_right _ _ (Nat.le_refl _)];simp
theorem ll.cast {f:Nat} {pv pw Qc:ch} {rX:List (Nat×List ag)} {dw:List bm} {r Qd:List ag} (h:ll f pv rX pw dw r) (fw:pw=Qc) (jh:r=Qd):ll f pv rX Qc dw Qd:=by subst fw jh; exact h
theorem ll.A5 {f:Nat} {pv:ch} {rX:List (Nat×List ag)} {pw:ch} {dw:List bm} {x:ag} {df:List ag} (ad:df[0]?=some x) (h:ll f pv rX pw dw df) :
 ll f pv rX (eh f pw (ee (cU x) df)).1 (dw++[⟨(fm x:Int),((eh f pw (ee (cU x) df)).2:Int)⟩]) (ka (cU x) df):=by
 rw [head_cons ad] at h ⊢;exact h.next
theorem Qe {s:ch} {ay:List ag} (bd:(s.findIdx? fun x=>x.1==ay)=none) (kr:(names s).Nodup) (c7:u5 s) (cA:ay≠[]) (aB:∀ t∈ay,p' t):u5 (s++(ay,[])::[])∧(names (s++(ay,[])::[])).Nodup:=by
 have ho:=Jp bd;refine ⟨fun x ad=>?_,?_⟩
 · rcases List.mem_append.1 ad with ad|ad
   · exact c7 x ad
   · simp only [List.mem_singleton] at ad;subst ad; exact ⟨cA,aB⟩
 · unfold names;rw [List.map_append,List.nodup_append];refine ⟨kr,by simp,fun a ao b U=>?_⟩;simp only [List.map_cons,List.map_nil,List.mem_singleton] at U;subst U;exact fun e=>ho (by rw [←e]; exact ao)
theorem A6 {df:List ag} {x:ag} {f:Nat} (ad:df[0]?=some x) (aB:fD df∧(∀ t∈df,t≠[])∧Deep (f+1) df) :
 fD (ee (cU x) df)∧ee (cU x) df≠[]∧Deep f (ee (cU x) df)∧h0 (ee (cU x) df)+(ee (cU x) df).length+h0 (ka (cU x) df)≤h0 df∧(ee (cU x) df).length+(ka (cU x) df).length=df.length∧1≤(ee (cU x) df).length:=by
 obtain ⟨aO,aI,hd⟩:=aB;have oZ:=List.mem_of_getElem? ad;have i_:=aI x oZ;have hp:cU x=du (fm x):=(xw i_ ((xx i_).1 (aO.my x oZ)).1).2.symm;have zq:=((aO.my x oZ).split i_).1
 have h1:1≤(ee (cU x) df).length:=by
  rw [head_cons ad]
  unfold ee
  rw [List.takeWhile_cons,if_pos (y_ x)]; simp
 refine ⟨?_,?_,fun t aQ=>?_,P_ (by rw [hp]; exact Pl _) _,P' _ _,h1⟩
 · rw [head_cons ad] at aO ⊢;exact Pv aO i_
 · intro e; rw [e] at h1; simp at h1
 · have hm:=hd _ (Pu aQ);rw [hp] at hm;have aa:=u2 (c:=fm x) zq t;unfold fm at hm aa;rw [aa] at hm;simp only [List.length_cons] at hm;omega
theorem JO {f:Nat} {df:List ag} {x:ag} (hd:Deep f df) (ad:x∈df) (aI:x≠[]):∃ f2,f=f2+1:=by
 have:=hd x ad;rw [v8 aI] at this;simp only [List.length_cons] at this;exact ⟨f-1,by omega⟩
theorem A7 {l:List ag} {x:ag} (h:x∈l):x.length≤h0 l:=by
 induction l with
 | nil=>simp at h
 | cons a l bq =>
  rw [JM]
  rcases List.mem_cons.1 h with rfl|h
  · omega
  · have:=bq h; omega
theorem Qf {l:List ag} {x:ag} (ad:l[0]?=some x) (h:x=[]):eZ l=l.drop 1∧iB l=true:=by
 rw [head_cons ad,h]; simp [eZ,iB]
theorem Qg {l:List ag} {x:ag} (ad:l[0]?=some x) (h:x≠[]):eZ l=l∧iB l=false:=by
 have a':=head_cons ad
 cases x with
 | nil=>exact absurd rfl h
 | cons a x =>
  constructor
  · rw [a']; rfl
  · rw [a']; simp [iB]
theorem Qh (s xs:ch) (r:List ag) (es p_:List bm):kG (s++(r,es)::xs)=kG (s++(r,p_)::xs):=YK (by simp [names])
structure px (p:ag) (l:List ag) (k:Nat) (b:List ag):Prop where
 is:b=(l.take k).map fun t=>t.drop p.length
 all:∀ t∈l.take k,p.isPrefixOf t=true
theorem px.start (p:ag) (l:List ag):px p l 0 []:=⟨by simp,by simp⟩
theorem px.next {p:ag} {l:List ag} {k:Nat} {b:List ag} {t:ag} (h:px p l k b) (aQ:l[k]?=some t) (hp:p.isPrefixOf t=true):px p l (k+1) (b++[t.drop p.length]):=by
 refine ⟨by rw [h.is,List.take_add_one,aQ]; simp,fun u hu=>?_⟩;rw [List.take_add_one,aQ] at hu;simp only [Option.toList_some,List.mem_append,List.mem_singleton] at hu;rcases hu with hu|rfl
 · exact h.all u hu
 · exact hp
theorem px.JP {p:ag} {l:List ag} {k m:Nat} {b:List ag} {t:ag} (h:px p l k b) (hm:p.length=m) (aQ:l[k]?=some t) (hp:p.isPrefixOf t=true):px p l (k+1) (b++[t.drop m]):=by rw [←hm]; exact h.next aQ hp
theorem Y8 {α:Type} {p:α→Bool} {l:List α} {k:Nat} (h1:∀ t∈l.take k,p t=true) (aa:∀ t,l[k]?=some t→p t=false):l.takeWhile p=l.take k∧l.dropWhile p=l.drop k:=by
 have e:l=l.take k++l.drop k:=(List.take_append_drop k l).symm
 have aq:(l.drop k).takeWhile p=[]∧(l.drop k).dropWhile p=l.drop k:=by
  cases hd:l.drop k with
  | nil=>simp
  | cons t r =>
   have:l[k]?=some t:=by rw [←List.head?_drop,hd]; rfl
   have:=aa t this
   simp [List.takeWhile_cons,List.dropWhile_cons,this]
 constructor
 · conv=>lhs; rw [e]
   rw [List.takeWhile_append_of_pos h1,aq.1,List.append_nil]
 · conv=>lhs; rw [e]
   rw [List.dropWhile_append_of_pos h1,aq.2]
theorem px.fin {p:ag} {l:List ag} {k:Nat} {b:List ag} (h:px p l k b) (he:l.length≤k∨∃ t,l[k]?=some t∧p.isPrefixOf t=false):b=ee p l∧l.drop k=ka p l:=by
 have:=Y8 h.all (fun t aQ=>by
  rcases he with he|⟨u,hu,hp⟩
  · rw [List.getElem?_eq_none he] at aQ; cases aQ
  · rw [hu] at aQ; cases aQ; exact hp)
 unfold ee ka;rw [this.1,this.2];exact ⟨h.is,rfl⟩
theorem JQ {p t:ag} {n:Nat} (h:p.isPrefixOf t=true) (aI:p.length=n):n≤t.length:=by
 have:=congrArg List.length (AV h);rw [List.length_append] at this; omega
theorem JR {s:ag} (aF:s≠[]):(cU s).length=kF s:=by
 have:=AN s aF;unfold cU kF;rw [List.length_take]; omega
end Go.ab
namespace Go.aA
open Go
def mB (w:World) (F:Nat→Prop) (t:List cc) (xs:ab.ch):Prop:=cx (fun r x=>r.fin=ab.iB x.1∧ak ab.eg w F r.e.val x.2) t xs
def Qi (cn al x:Nat):Nat→Prop:=fun b=>cn≤b∧b < al∧b+1≠x
def Qj (cn al x y:Nat):Nat→Prop:=fun b=>cn≤b∧b < al∧b+1≠x∧b+1≠y
theorem mB.keep {M:Nat→Prop} {w ah:World} {F:Nat→Prop} {t:List cc} {xs:ab.ch} (h:mB w F t xs) (hm:Mod M w ah) (bO:∀ b,F b→¬ M b):mB ah F t xs:=cx.imp (fun r n ⟨h1,aa⟩=>⟨h1,aa.keep hm bO⟩) h
theorem mB.mono {w:World} {F F':Nat→Prop} {t:List cc} {xs:ab.ch} (h:mB w F t xs) (bO:∀ b,F b→F' b):mB w F' t xs:=cx.imp (fun r n ⟨h1,aa⟩=>⟨h1,aa.mono bO⟩) h
theorem mB.len {w:World} {F:Nat→Prop} {t:List cc} {xs:ab.ch} (h:mB w F t xs):t.length=xs.length:=(cx.get h).1
def Qk (w:World) (cn al x y:Nat) (t:List cc) (xs:ab.ch):Prop:=mB w (Qj cn al x y) t xs
theorem Qk.out {w:World} {cn al F0 x y:Nat} {t:List cc} {xs:ab.ch} (h:Qk w cn al x y t xs) (fC:al≤F0):mB w (Qi cn F0 y) t xs:=mB.mono h fun b U=>by unfold Qj at U; unfold Qi; omega
theorem Y9 {w:World} {b:Nat} {m rF:List (ag×Int)} (h:lO aH fo w b m) (e:m=rF):lO aH fo w b rF:=e▸h
theorem aY.Ql {P:Program} {E:Env} {C:World→Prop} {d:Option Tmp} {ty:TypeId} {pos:String} {af:Array Edge} {gd:Option (Nat×Bool)} {α β:Type} [DecidableEq α] {key:α→Value} {val:β→Value} {t ei h7:TypeId} {x y:Operand} {b:Nat} {m:List (α×β)} {a:α} {z:Value} {u:β} (hk:KeyOk P ei key) (aQ:P.underlying t=some (.map ei h7)) (b':∀ w,(zeroValue h7).run P w=.ok z w) (ad:aC E x=some (.map (some b))) (av:aC E y=some (key a)) (hm:∀ w,C w→lO key val w b m) (hu:fH m a=some u) :
 aY P ⟨d,.lookup t x y true,ty,pos,af,gd⟩ E C (.tuple #[val u,.bool true]):=by
 have h:=aY.PJ (d:=d) (ty:=ty) (pos:=pos) (af:=af) (gd:=gd) (g:=true) (n:=0) (by_:=0) hk aQ b' ad av hm;rw [hu] at h; exact h
theorem aY.Qm {P:Program} {E:Env} {C:World→Prop} {d:Option Tmp} {ty:TypeId} {pos:String} {af:Array Edge} {gd:Option (Nat×Bool)} {α β:Type} [DecidableEq α] {key:α→Value} {val:β→Value} {t ei h7:TypeId} {x y:Operand} {b:Nat} {m:List (α×β)} {a:α} {z:Value} (hk:KeyOk P ei key) (aQ:P.underlying t=some (.map ei h7)) (b':∀ w,(zeroValue h7).run P w=.ok z w) (ad:aC E x=some (.map (some b))) (av:aC E y=some (key a)) (hm:∀ w,C w→lO key val w b m) (hu:fH m a=none) :
 aY P ⟨d,.lookup t x y true,ty,pos,af,gd⟩ E C (.tuple #[z,.bool false]):=by
 have h:=aY.PJ (d:=d) (ty:=ty) (pos:=pos) (af:=af) (gd:=gd) (g:=true) (n:=0) (by_:=0) hk aQ b' ad av hm;rw [hu] at h; exact h
end Go.aA
namespace Go.ab
open Go.aA
theorem Qn:∀ rs:List Nat,(qS rs).length≤4*rs.length
 | []=>by simp [qS]
 | c::rs=>by
  have h:=Qn rs
  have a6:=we c
  have e:qS (c::rs)=du c++qS rs:=rfl
  rw [e,List.length_append,List.length_cons]; omega
theorem Y_ {w:ag} (h:word w=true):w.length≤48:=by
 unfold word at h;rw [Bool.and_eq_true,decide_eq_true_eq,decide_eq_true_eq] at h
 have bd:hh w:=by
  intro hm
  unfold hQ at h; rw [if_pos hm] at h; omega
 have a':=Pn bd;have he:=Qn (gj w);rw [(FG w bd).1] at he;omega
theorem Y' {l:List ag} {m:Nat} (h:∀ x∈l,x.length≤m):h0 l≤l.length*m:=by
 induction l with
 | nil=>simp [h0]
 | cons a l bq =>
  rw [JM,List.length_cons,Nat.add_mul]
  have:=h a (by simp)
  have:=bq fun x ad=>h x (by simp [ad])
  omega
theorem CX {l:List ag} (h:eD l=0):l.length≤60∧h0 l≤2880:=by
 obtain ⟨h1,aa,_⟩:=y8 h;have:=Y' (l:=l) (m:=48) fun x ad=>Y_ (aa x ad)
 omega
def nv (words:List ag):ch:=if words=[] then [([],[])] else rP words
def gI (words:List ag):List bC:=if eD words=0 then fa (nv words) else []
theorem Za {words:List ag} (h:eD words≠0):gI words=[]:=by unfold gI; rw [if_neg h]
theorem sD {words:List ag} (h:eD words=0):gI words=fa (nv words):=by unfold gI; rw [if_pos h]
theorem F1 {words:List ag} (h:words=[]):gI words=[(false,[])]:=by subst h; decide
theorem Qo {words:List ag} (h:eD words=0):(rP words).length≤2881:=by
 have h1:=xD 13 [] words (rS h).1;have aa:=(CX h).2;unfold rP;simp only [List.length_nil] at h1;omega
theorem Zb {α β:Type} {R:α→β→Prop} {a:List α} {b:List β} (h:cx R a b):a.length=b.length:=(cx.get h).1
theorem JS:∀ (n:Nat) (l:List ag),l.length≤n→(ga l).length≤l.length
 | _,[],_=>by simp [za]
 | 0,_::_,h=>by simp at h
 | n+1,s::r,h=>by
  rw [AU]
  have hm:=y' s r
  have:=JS n (ka (cU s) (s::r)) (by simp only [List.length_cons] at h; omega)
  simp only [List.length_cons]; omega
theorem Zc (p:ag) (l:List ag):(ee p l).length≤l.length:=by have:=P' p l; omega
theorem Qp:∀ (n:Nat) (l:List ag),l.length≤n→∀ g∈ga l,g.2.length≤l.length
 | _,[],_,g,aO=>by simp [za] at aO
 | 0,_::_,h,_,_=>by simp at h
 | n+1,s::r,h,g,aO=>by
  rw [AU] at aO
  have hm:=y' s r
  rcases List.mem_cons.1 aO with rfl|aO
  · exact Zc _ _
  · have:=Qp n (ka (cU s) (s::r)) (by simp only [List.length_cons] at h; omega) g aO
    simp only [List.length_cons]; omega
theorem Qq {add:ch→List ag→ch×Nat} {L:Nat}:∀ (gs:List (Nat×List ag)) (s:ch),(∀ g∈gs,∀ s,(∀ y∈s,y.1.length≤L)→∀ y∈(add s g.2).1,y.1.length≤L)→(∀ y∈s,y.1.length≤L)→∀ y∈(kt add s gs).1,y.1.length≤L
 | [],s,_,aF=>aF
 | g::gs,s,h,aF=>by
  show ∀ y∈(kt add (add s g.2).1 gs).1,_
  exact Qq gs _ (fun e' rQ=>h e' (by simp [rQ])) (h g (by simp) s aF)
theorem CY {L:Nat}:∀ (f:Nat) (s:ch) (ay:List ag),(∀ y∈s,y.1.length≤L)→ay.length≤L→∀ y∈(eh f s ay).1,y.1.length≤L
 | 0,s,ay,aF,_=>aF
 | f+1,s,ay,aF,aB=>by
  unfold eh
  cases al:s.findIdx? fun x=>x.1==ay with
  | some i=>exact aF
  | none =>
   have h1:=Qq (add:=eh f) (L:=L) (ga (eZ ay)) (s++[(ay,[])]) (fun g hI iz yV=>CY f iz g.2 yV (by
    have:=Qp _ (eZ ay) (Nat.le_refl _) g hI
    have:=CW ay
    omega)) (fun y av=>by
     rcases List.mem_append.1 av with av|av
     · exact aF y av
     · simp only [List.mem_singleton] at av; subst av; exact aB)
   intro y av
   rcases List.mem_or_eq_of_mem_set av with av|rfl
   · exact h1 y av
   · exact aB
theorem A8 {words:List ag} (h:eD words=0):sC (gI words) (nv words) words:=by
 rw [sD h];unfold nv;split
 · rename_i he; subst he; exact sC.empty
 · rename_i he;have hw:=AW (rS h).2 (rS h).1 he;have a':=Qo h;refine sC.of hw (by omega) fun y av=>?_
   have an:=Zb (hw.node y av).u3;have aO:=JS _ (eZ y.1) (Nat.le_refl _);have hd:=CW y.1;have F2:y.1.length≤60:=CY 13 [] words (by simp) (CX h).1 y av;omega
end Go.ab
namespace Go.aA
open Go
theorem Qr {w:World} {F:Nat→Prop}:∀ {t:List cc} {xs:ab.ch},mB w F t xs→iC w F t (fa xs)
 | _,_,.nil=>.nil
 | _,_,.cons h r=>.cons h (Qr r)
end Go.aA
namespace Go.ab
open Go.aA
def sE (c:Nat):Nat:=if c % 2=1 then (c / 2) ^^^ 3988292384 else c / 2
def py:Nat→Nat→Nat
 | 0,c=>c
 | k+1,c=>sE (py k c)
def tI (c b:Nat):Nat:=py 8 (c ^^^ b)
def qc (c:Nat) (l:List UInt8):Nat:=l.foldl (fun c x=>tI c x.toNat) c
def zr (c:Nat) (l:List UInt8):Nat:=4294967295-qc (4294967295-c) l
def jj (l:List UInt8):Nat:=zr 0 l
theorem Zd {c:Nat} (h:c < 4294967296):sE c < 4294967296:=by
 unfold sE;split
 · exact vc (by omega) (by omega)
 · omega
theorem F3 {c:Nat} (h:c < 4294967296):∀ k,py k c < 4294967296
 | 0=>h
 | k+1=>Zd (F3 h k)
theorem zs {c b:Nat} (h:c < 4294967296) (U:b < 256):tI c b < 4294967296:=F3 (vc h (by omega)) 8
theorem Ze (c:Nat) (b:UInt8) (h:c < 4294967296):tI c b.toNat < 4294967296:=zs h b.toNat_lt
theorem F4:∀ (l:List UInt8) {c:Nat},c < 4294967296→qc c l < 4294967296
 | [],c,h=>h
 | x::l,c,h=>F4 l (zs h x.toNat_lt)
theorem Qs {c:Nat} {l:List UInt8} {k:Nat} {x:UInt8} (ad:l[k]?=some x):qc c (l.take (k+1))=tI (qc c (l.take k)) x.toNat:=by
 unfold qc;rw [List.take_add_one,ad,List.foldl_append]; rfl
theorem zt (c:Nat) (l:List UInt8):zr c l < 4294967296:=by unfold zr; omega
theorem Qt {c eV:Nat} {k:Nat} (h:c=py k eV) (h1:c % 2=1):(c / 2) ^^^ 3988292384=py (k+1) eV:=by
 show _=sE (py k eV);rw [←h]; unfold sE; rw [if_pos h1]
theorem Qu {c eV:Nat} {k:Nat} (h:c=py k eV) (h1:¬ c % 2=1):c / 2=py (k+1) eV:=by
 show _=sE (py k eV);rw [←h]; unfold sE; rw [if_neg h1]
theorem Zf (a b:Nat):(a ^^^ b) / 2=(a / 2) ^^^ (b / 2):=by
 have:=Nat.shiftRight_xor_distrib (a:=a) (b:=b) (i:=1);simpa [Nat.shiftRight_eq_div_pow] using this
theorem Zg (a b:Nat):(a ^^^ b) % 2=(a % 2+b % 2) % 2:=by
 have:=Nat.xor_mod_two_pow (a:=a) (b:=b) (n:=1);simp only [Nat.pow_one] at this;rw [this];rcases Nat.mod_two_eq_zero_or_one a with h|h<;>rcases Nat.mod_two_eq_zero_or_one b with gx|gx<;>rw [h,gx]<;>rfl
def qV (eV b:Nat) (k c:Nat):Prop:=py k (eV ^^^ b)=c ^^^ (b / 2 ^ k)∧c < 4294967296
theorem qV.start {eV b:Nat} (h:eV < 4294967296):qV eV b 0 eV:=⟨by simp [py],h⟩
theorem Qv {eV b k c:Nat} (h:qV eV b k c) (U:b < 256):py (k+1) (eV ^^^ b)=(if c % 2≠b / 2 ^ k % 2 then (c / 2) ^^^ 3988292384 else c / 2) ^^^ (b / 2 ^ (k+1)):=by
 show sE (py k (eV ^^^ b))=_;rw [h.1];unfold sE;rw [Zg,Zf,Nat.pow_succ,←Nat.div_div_eq_div_mul];by_cases an:c % 2=b / 2 ^ k % 2
 · rw [if_neg (by omega),if_neg (by omega)]
 · rw [if_pos (by omega),if_pos an,Nat.xor_assoc,Nat.xor_comm (b / 2 ^ k / 2),←Nat.xor_assoc]
theorem qV.one {eV b k c:Nat} (h:qV eV b k c) (U:b < 256) (an:c % 2≠b / 2 ^ k % 2):qV eV b (k+1) ((c / 2) ^^^ 3988292384):=⟨by rw [Qv h U,if_pos an],vc (by have:=h.2; omega) (by omega)⟩
theorem qV.nil {eV b k c:Nat} (h:qV eV b k c) (U:b < 256) (an:c % 2=b / 2 ^ k % 2):qV eV b (k+1) (c / 2):=⟨by rw [Qv h U,if_neg (by omega)],by have:=h.2; omega⟩
theorem qV.fin {eV b c:Nat} (h:qV eV b 8 c) (U:b < 256):c=tI eV b:=by
 have:=h.1;rw [Nat.div_eq_of_lt (by omega:b < 2 ^ 8),Nat.xor_zero] at this;exact this.symm
def eJ (n:Int) (size:Nat):List UInt8:=(List.range size).map fun i=>fK (IntKind.u64.wrap n / 2 ^ (8*(size-1-i)))
theorem eM (n:Int) (size:Nat):(eJ n size).length=size:=by simp [eJ]
theorem Qw {n:Int} {size i:Nat} {b out:List UInt8} {x:UInt8} (h:out=b++(eJ n size).take i) (al:i < size) (ad:x=fK (IntKind.u64.wrap n / 2 ^ (8*(size-1-i)))):out++[x]=b++(eJ n size).take (i+1):=by
 rw [h,List.append_assoc];congr 1
 rw [List.take_add_one];congr 1
 unfold eJ;rw [List.getElem?_map,List.getElem?_range al,ad]; rfl
def jI (l:List UInt8):Nat:=l.foldl (fun n x=>n*256+x.toNat) 0
theorem Qx:∀ (l:List UInt8) (n:Nat),l.foldl (fun n x=>n*256+x.toNat) n < (n+1)*256 ^ l.length
 | [],n=>by simp
 | x::l,n=>by
  have:=Qx l (n*256+x.toNat)
  have ad:=x.toNat_lt
  rw [List.foldl_cons,List.length_cons,Nat.pow_succ]
  calc _ < (n*256+x.toNat+1)*256 ^ l.length:=this
   _≤((n+1)*256)*256 ^ l.length:=Nat.mul_le_mul_right _ (by omega)
   _=_:=by rw [Nat.mul_assoc,Nat.mul_comm 256]
theorem Zh {l:List UInt8} {k:Nat} {x:UInt8} (ad:l[k]?=some x):jI (l.take (k+1))=jI (l.take k)*256+x.toNat:=by
 unfold jI;rw [List.take_add_one,ad,List.foldl_append]; rfl
def ln (b:List UInt8) (at_ size:Int):Bool:=decide (1≤size∧size≤8∧0≤at_∧at_≤b.length∧size≤b.length-at_)
def iP (b:List UInt8) (at_ size:Int):Int:=if ln b at_ size=true then (jI ((b.drop at_.toNat).take size.toNat):Int) else 0
theorem F5 {b:List UInt8} {at_ size:Int} (h:¬ (1≤size∧size≤8∧0≤at_∧at_≤b.length∧size≤b.length-at_)):(0:Int)=iP b at_ size∧false=ln b at_ size:=by
 have:ln b at_ size=false:=decide_eq_false h
 unfold iP; rw [this]; exact ⟨rfl,rfl⟩
theorem F6 {b:List UInt8} {at_ size:Int} (h:1≤size∧size≤8∧0≤at_∧at_≤b.length∧size≤b.length-at_):(jI ((b.drop at_.toNat).take size.toNat):Int)=iP b at_ size∧true=ln b at_ size:=by
 have:ln b at_ size=true:=decide_eq_true h
 unfold iP; rw [this]; exact ⟨rfl,rfl⟩
theorem JT {l:List UInt8}:jI l < 256 ^ l.length:=by
 have:=Qx l 0;unfold jI; simpa using this
def kI (e:bm):List UInt8:=eJ e.rune 4++eJ e.to 2
def jk (x:bC):List UInt8:=eJ (if x.1=true then 1 else 0) 1++eJ x.2.length 2++x.2.flatMap kI
def gq (N:List bC):List UInt8:=[73,78,75,49]++eJ N.length 2++N.flatMap jk
def wi (b:List UInt8):List UInt8:=b++eJ (jj b) 4
def jJ (N:List bC):List UInt8:=wi (gq N)
end Go.ab
namespace Go.ab
open Go.aA
theorem Zi {n i:Int} {size:Nat} {b out:List UInt8} (h:out=b++(eJ n size).take ((size:Int)-1-i).toNat) (a8:0≤i) (al:i < (size:Int)):out++[fK (IntKind.u64.wrap n / 2 ^ (8*i).toNat)]=b++(eJ n size).take ((size:Int)-1-(i-1)).toNat:=by
 have:=Qw (x:=fK (IntKind.u64.wrap n / 2 ^ (8*i).toNat)) h (by omega) (by congr 3; omega);rw [this];congr 2; omega
theorem JU {l:List UInt8} {i:Nat} (h:i≤4):jI (l.take i) < 4294967296:=by
 have h1:=JT (l:=l.take i);have aa:(l.take i).length≤4:=(by rw [List.length_take]; omega);have aq:256 ^ (l.take i).length≤256 ^ 4:=Nat.pow_le_pow_right (by omega) aa;omega
theorem Qy {at_:Int} {b:List UInt8} {m i:Nat} {x:UInt8} (h:m=jI ((b.drop at_.toNat).take i)) (ad:b[(at_+(i:Int)).toNat]?=some x) (a8:0≤at_):m*256+x.toNat=jI ((b.drop at_.toNat).take (i+1)):=by
 rw [h];symm;refine Zh ?_;rw [List.getElem?_drop,←ad];congr 1; omega
theorem CZ (b:List UInt8) (at_:Int) (size:Nat):0≤iP b at_ size:=by unfold iP; split<;>omega
end Go.ab
namespace Go.ab
open Go.aA
theorem Zj {g:List bC} {i:Nat} (h:i < g.length):g[i]?=some (nodeAt g (i:Int)):=by
 rw [JC (by omega) (List.getElem?_eq_getElem h)];exact List.getElem?_eq_getElem h
theorem Qz (g:List bC):[73,78,75,49]++eJ (g.length:Int) 2++(g.drop 0).flatMap jk=gq g:=rfl
theorem C0 {g:List bC} {B out:List UInt8} {i:Nat} {x:bC} {f:Int} (h:out++(g.drop i).flatMap jk=B) (ad:g[i]?=some x) (bd:f=if x.1=true then 1 else 0):out++eJ f 1++eJ (x.2.length:Int) 2++((x.2.drop 0).flatMap kI++(g.drop (i+1)).flatMap jk)=B:=by
 rw [←h,zn ad,List.flatMap_cons,bd];unfold jk;simp
theorem C1 {B out:List UInt8} {es:List bm} {R:List UInt8} {k:Nat} {e:bm} (h:out++((es.drop k).flatMap kI++R)=B) (ad:es[k]?=some e):out++eJ e.rune 4++eJ e.to 2++((es.drop (k+1)).flatMap kI++R)=B:=by
 rw [←h,zn ad,List.flatMap_cons];unfold kI;simp
theorem F7 {B out:List UInt8} {es:List bm} {R:List UInt8} {k:Nat} (h:out++((es.drop k).flatMap kI++R)=B) (hk:es.length≤k):out++R=B:=by
 rw [List.drop_of_length_le hk] at h;simpa using h
theorem xE {B out R:List UInt8} (h:out++R=B):out.length≤B.length:=by rw [←h,List.length_append]; omega
theorem F8 {B out R:List UInt8} {es:List bm} {k:Nat} {e:bm} (h:out++((es.drop k).flatMap kI++R)=B) (ad:es[k]?=some e):out.length+6≤B.length:=by
 have:=xE (C1 h ad);simp only [List.length_append,eM] at this; omega
theorem JV {g:List bC} {B out:List UInt8} {i:Nat} {x:bC} (h:out++(g.drop i).flatMap jk=B) (ad:g[i]?=some x):out.length+3≤B.length:=by
 have:=xE (C0 (f:=if x.1=true then 1 else 0) h ad rfl);simp only [List.length_append,eM] at this; omega
theorem QA {g:List bC} {out:List UInt8} {i:Nat} (h:out++(g.drop i).flatMap jk=gq g) (al:g.length≤i):out=gq g:=by
 rw [List.drop_of_length_le al] at h;simpa using h
def xF (g:List bC):List UInt8:=if g.isEmpty=true then [] else jJ g
theorem QB {g:List bC} (h:g=[]):xF g=[]:=by subst h; rfl
theorem JW {g:List bC} (h:g≠[]):xF g=jJ g:=by
 unfold xF; rw [if_neg]; cases g<;>simp at *
def F9 (g:List bC):Int:=if g.isEmpty=true then 2 else 0
theorem QC {g:List bC} (h:g≠[]):(0:Int)=F9 g:=by
 unfold F9; rw [if_neg]; cases g<;>simp at *
def kc (words:List ag):List UInt8:=if eD words=0 then jJ (gI words) else []
theorem QD {words:List ag} (h:eD words≠0):([]:List UInt8)=kc words:=by unfold kc; rw [if_neg h]
theorem F_ {g:ch} {i:Nat} {x:List ag×List bm} (h:g[i]?=some x):(fa g)[i]?=some (iB x.1,x.2):=by unfold fa; rw [List.getElem?_map,h]; rfl
end Go.ab
namespace Go.ab
open Go.aA
theorem Zk (es:List bm):(es.flatMap kI).length=6*es.length:=by
 induction es with
 | nil=>rfl
 | cons e es bq=>rw [List.flatMap_cons,List.length_append,bq,List.length_cons]; unfold kI; rw [List.length_append,eM,eM]; omega
def A9 (N:List bC):Nat:=(N.map fun x=>x.2.length).sum
theorem Zl (N:List bC):(N.flatMap jk).length=3*N.length+6*A9 N:=by
 unfold A9
 induction N with
 | nil=>rfl
 | cons x N bq =>
  rw [List.flatMap_cons,List.length_append,bq,List.length_cons,List.map_cons,List.sum_cons]
  unfold jk
  rw [List.length_append,List.length_append,eM,eM,Zk]; omega
theorem JX (N:List bC):(gq N).length=6+3*N.length+6*A9 N:=by
 unfold gq;rw [List.length_append,List.length_append,eM,Zl];simp only [List.length_cons,List.length_nil]; omega
theorem nP (N:List bC):(jJ N).length=10+3*N.length+6*A9 N:=by
 unfold jJ wi;rw [List.length_append,eM,JX]; omega
theorem Zm {N:List bC} {m:Nat} (h:∀ x∈N,x.2.length≤m):A9 N≤N.length*m:=by
 unfold A9
 induction N with
 | nil=>simp
 | cons x N bq =>
  have h1:=h x (by simp)
  have aa:=bq fun y av=>h y (by simp [av])
  rw [List.map_cons,List.sum_cons,List.length_cons,Nat.succ_mul]; omega
end Go.ab
namespace Go.ab
open Go.aA
theorem QE {g:ch} {out:List UInt8} {i:Nat} {sF:List ag×List bm} (h:out++((fa g).drop i).flatMap jk=gq (fa g)) (ad:g[i]?=some sF) (U:(nodeAt (fa g) (i:Int)).1=true):out++eJ 1 1++eJ (sF.2.length:Int) 2++((sF.2.drop 0).flatMap kI++((fa g).drop (i+1)).flatMap jk)=gq (fa g):=by
 rw [zm ad] at U;exact C0 (x:=(iB sF.1,sF.2)) h (F_ ad) (by rw [if_pos U])
theorem QF {g:ch} {out:List UInt8} {i:Nat} {sF:List ag×List bm} (h:out++((fa g).drop i).flatMap jk=gq (fa g)) (ad:g[i]?=some sF) (U:(nodeAt (fa g) (i:Int)).1=false):out++eJ 0 1++eJ (sF.2.length:Int) 2++((sF.2.drop 0).flatMap kI++((fa g).drop (i+1)).flatMap jk)=gq (fa g):=by
 rw [zm ad] at U;have xn:iB sF.1=false:=U;exact C0 (x:=(iB sF.1,sF.2)) h (F_ ad) (by rw [if_neg (by simp [xn])])
end Go.ab
namespace Go.aA
open Go Go.ab
def ig {R:Nat→Prop} (t:List cc) (xs:ch):dc R:=⟨fun F w=>mB w F t xs,fun h hm bO _=>mB.keep h hm bO⟩
abbrev A_:Nat→Prop:=fun _=>False
def jR (Zn rY ku:TypeId) (iq:Nat) (s:ch) (aT:List cc):dc A_:=
 nt fun x:Nat×Nat×Value=>bA [az iq [ptr x.1 0,.map (some x.2.1)] Zn,az x.1 [x.2.2] rY,kb aH fo x.2.1 (kG s),bb eR ku 2 x.2.2 aT]
theorem wj {R:Nat→Prop} {A B:dc R} {F:Nat→Prop} {w:World} (h:(bA [A,B]).p F w):∃ gb cO,A.p gb w∧B.p cO w∧(∀ b,gb b→F b)∧(∀ b,cO b→F b):=by
 obtain ⟨fe,h1,aa,aq⟩:=h;exact ⟨fe 0,fe 1,h1 0 A rfl,h1 1 B rfl,fun b U=>(aa 0 b U).1.1,fun b U=>(aa 1 b U).1.1⟩
theorem Ga {t t2:List cc} {xs fL:ch} {F:Nat→Prop} {w:World} {R:Nat→Prop} (h:(bA (R:=R) [ig t xs,ig t2 fL]).p F w):(ig (R:=R) (t++t2) (xs++fL)).p F w:=by
 obtain ⟨gb,cO,h1,aa,aq,a6⟩:=wj h;exact cx.app (mB.mono h1 aq) (mB.mono aa a6)
theorem vd {α:Type} {enc:α→List Value} {e:TypeId} {sz:Nat} {v:Value} {l:List α} {F:Nat→Prop} {w:World} {R:Nat→Prop} (h:(bb (R:=R) enc e sz v l).p F w):ak enc w F v l:=by
 obtain ⟨g,h1,aa⟩:=h;refine h1.bl.mono fun b U=>?_
 rcases h1 with ⟨_,_,a6⟩|⟨rL,cap,cur,a8,_⟩
 · unfold aR at U; omega
 · exact aa b (by unfold aR at U; omega)
theorem QG {α:Type} {enc:α→List Value} {v:Value} {l:List α} {F:Nat→Prop} {w:World} {R:Nat→Prop} (h:(ff (R:=R) enc [(v,l)]).p F w):ak enc w (fun b=>F b∨R b) v l:=h (v,l) (List.mem_singleton_self _)
theorem C2 {α:Type} {enc:α→List Value} {v:Value} {l:List α} {F:Nat→Prop} {w:World} (h:(ff (R:=A_) enc [(v,l)]).p F w):ak enc w F v l:=(QG h).mono fun b U=>U.resolve_right id
theorem Gb {R:Nat→Prop} {A:dc R} {t:List cc} {xs:ch} {F:Nat→Prop} {w:World} (h:(bA [A,ig t xs]).p F w):t.length=xs.length:=by
 obtain ⟨gb,cO,h1,aa,aq,a6⟩:=wj h;exact mB.len aa
theorem QH {e:TypeId} {v:Value} {es:List bm} {t:List cc} {xs:ch} {x:List ag} {r:cc} {F:Nat→Prop} {w:World} (bG:v=r.e.val) (bd:r.fin=iB x) {R:Nat→Prop} (h:(bA (R:=R) [bb eg e 2 v es,ig t xs]).p F w):(ig (R:=R) (r::t) ((x,es)::xs)).p F w:=by
 obtain ⟨gb,cO,h1,aa,aq,a6⟩:=wj h;exact .cons ⟨bd,bG▸(vd h1).mono aq⟩ (mB.mono aa a6)
end Go.aA
namespace Go.aA
open Go Go.ab
theorem ar.cZ {w0 w:World} {dF:Nat} {rY ku:TypeId} {qW:Value} {t:List cc} {xs:ch} (h:ar A_ A_ w0 w [az dF [qW] rY,bb eR ku 2 qW t,ig t xs]) (cA:xs≠[]):gp 0 w w0.heap.size w.heap.size (ptr dF 0) (fa xs):=by
 obtain ⟨F,h1,aa,_⟩:=h.act (i:=0) rfl;have aF:=h.YW (i:=1) rfl;obtain ⟨zu,aq,a6,_⟩:=h.act (i:=2) rfl;have U:=aa dF h1.2;exact .inr ⟨dF,qW,t,rfl,by simpa [fa] using cA,⟨U.1.1.resolve_left id,U.2,h1.1.row⟩,aF,Qr (mB.mono aq fun b U=>⟨(a6 b U).1.1.resolve_left id,(a6 b U).2⟩)⟩
theorem ar.h2 {w0 w:World} {dF:Nat} {rY:TypeId} {qW:Value} (h:ar A_ A_ w0 w [az dF [qW] rY,ff eR [(qW,[cc.mk false (cb.mk none 0 0)])]]):gp 0 w w0.heap.size w.heap.size (ptr dF 0) [(false,[])]:=by
 obtain ⟨F,h1,aa,_⟩:=h.act (i:=0) rfl;have aF:=h.JJ (i:=1) (k:=0) rfl rfl;have U:=aa dF h1.2;exact .inr ⟨dF,qW,_,rfl,by simp,⟨U.1.1.resolve_left id,U.2,h1.1.row⟩,aF,.cons ⟨rfl,ak.nil⟩ .nil⟩
theorem Zo {bB F:Nat→Prop} {w0:World} (h:∀ b,F b→((False∨w0.heap.size≤b)∧¬ False)∧bB b):∀ b,aR 0 w0.heap.size b→¬ F b:=fun b U bd=>by
 have:=(h b bd).1.1.resolve_left id
 unfold aR at U; omega
end Go.aA
namespace Go.ab
open Go.aA
theorem QI {l:List ag} (aF:p9 l) {i j:Nat} {x y:ag} (ad:l[i]?=some x) (av:l[j]?=some y) (h:i < j):mx x y:=by
 obtain ⟨h1,rfl⟩:=List.getElem?_eq_some_iff.1 ad;obtain ⟨aa,rfl⟩:=List.getElem?_eq_some_iff.1 av;exact List.pairwise_iff_getElem.1 aF _ _ h1 aa h
structure xG (l:List ag) (w:ag) (i j:Nat):Prop where
 cn:∀ k x,k < i→l[k]?=some x→mx x w
 al:∀ k x,j≤k→l[k]?=some x→¬ mx x w
theorem xG.yes {l:List ag} {w x:ag} {i:Nat} (ad:l[i]?=some x) (an:Lib.compareBytes x w=0):true=l.contains w:=by
 have:=cmp_eq an;subst this;exact (List.contains_iff_mem.2 (List.mem_of_getElem? ad)).symm
theorem xG.no {l:List ag} {w x:ag} {i j:Nat} (U:xG l w i j) (aF:p9 l) (l5:i=j) (ad:l[i]?=some x) (an:Lib.compareBytes x w≠0):false=l.contains w:=by
 subst l5
 cases h:l.contains w with
 | false=>rfl
 | true =>
  obtain ⟨k,hk⟩:=List.mem_iff_getElem?.1 (List.contains_iff_mem.1 h)
  rcases Nat.lt_or_ge k i with a'|a'
  · exact absurd (U.cn k w a' hk) (lt_irrefl w)
  · rcases Nat.lt_or_ge i k with aa|aa
    · exact absurd (QI aF ad hk aa) (U.al i x (Nat.le_refl _) ad)
    · have:k=i:=by omega
      subst this
      rw [ad] at hk; cases hk
      exact absurd (FH _) an
theorem xG.none {l:List ag} {w:ag} {i j:Nat} (U:xG l w i j) (al:l.length≤i):false=l.contains w:=by
 cases h:l.contains w with
 | false=>rfl
 | true =>
  obtain ⟨k,hk⟩:=List.mem_iff_getElem?.1 (List.contains_iff_mem.1 h)
  have:=(List.getElem?_eq_some_iff.1 hk).1
  exact absurd (U.cn k w (by omega) hk) (lt_irrefl w)
theorem xG.at {l:List ag} {w x:ag} {i j:Nat} {b:Bool} (U:xG l w i j) (aF:p9 l) (l5:i=j) (ad:l[i]?=some x) (h:b=(Lib.compareBytes x w==0)):b=l.contains w:=by
 rw [h];by_cases an:Lib.compareBytes x w=0
 · rw [←xG.yes ad an]; simp [an]
 · rw [←U.no aF l5 ad an]; simp [an]
theorem Zp {l:List ag} (h:qP l=false):l.length≤80:=by
 unfold qP at h;simp only [Bool.or_eq_false_iff,decide_eq_false_iff_not] at h;omega
end Go.ab
namespace Go.ab
open Go.aA
theorem ve (n:Nat):fK (n:Int)=gH n:=YY n
theorem Zq {r:Int} (a8:0≤r) (h:r < 128):[fK r]=du r.toNat:=by
 obtain ⟨c,rfl⟩:=Int.eq_ofNat_of_zero_le a8;rw [Int.toNat_natCast]; unfold du;rw [if_pos (by omega),ve]
theorem Zr {r:Int} (a8:0≤r) (h:¬ r < 128) (aa:r < 2048):[fK (192+r / 64),fK (128+r % 64)]=du r.toNat:=by
 obtain ⟨c,rfl⟩:=Int.eq_ofNat_of_zero_le a8;rw [Int.toNat_natCast]; unfold du;rw [if_neg (by omega),if_pos (by omega),←ve,←ve];rfl
theorem Zs {r:Int} (a8:0≤r) (h:¬ r < 128) (aa:¬ r < 2048) (aq:r < 65536):[fK (224+r / 4096),fK (128+r / 64 % 64),fK (128+r % 64)]=du r.toNat:=by
 obtain ⟨c,rfl⟩:=Int.eq_ofNat_of_zero_le a8;rw [Int.toNat_natCast]; unfold du;rw [if_neg (by omega),if_neg (by omega),if_pos (by omega),←ve,←ve,←ve];rfl
theorem Zt {r:Int} (a8:0≤r) (h:¬ r < 128) (aa:¬ r < 2048) (aq:¬ r < 65536):[fK (240+r / 262144),fK (128+r / 4096 % 64),fK (128+r / 64 % 64),fK (128+r % 64)]=du r.toNat:=by
 obtain ⟨c,rfl⟩:=Int.eq_ofNat_of_zero_le a8;rw [Int.toNat_natCast]; unfold du;rw [if_neg (by omega),if_neg (by omega),if_neg (by omega),←ve,←ve,←ve,←ve];rfl
def zv (l:List Int):ag:=l.flatMap fun r=>du r.toNat
def xH (l:List Int):ag:=if l.all nS=true then zv l else []
theorem Zu {l:List Int} {k:Nat} {x:Int} (ad:l[k]?=some x):zv (l.take (k+1))=zv (l.take k)++du x.toNat:=by
 unfold zv; rw [List.take_add_one,ad]; simp
theorem xI {l:List Int} {k:Nat} {x:Int} (ad:l[k]?=some x) (h:nS x=false):([]:ag)=xH l∧false=l.all nS:=by
 have:l.all nS=false:=Jd ad h
 unfold xH; rw [this]; exact ⟨rfl,rfl⟩
theorem xJ {l:List Int} {k:Nat} {s:ag} (ao:(l.take k).all nS=true) (aF:s=zv (l.take k)) (hk:l.length≤k):s=xH l∧true=l.all nS:=by
 rw [List.take_of_length_le hk] at ao aF;unfold xH; rw [if_pos ao,ao]; exact ⟨aF,rfl⟩
theorem Zv (c:Nat):(du c).length≤4:=we c
theorem Zw {c:Nat} (h:jt c):nS (c:Int)=true:=by
 rw [AS]; unfold jt at h; exact decide_eq_true (by omega)
theorem Zx {x:Int} (h:nS x=true):0≤x∧x≤1114111:=by
 rw [AS] at h;have:=of_decide_eq_true h;omega
theorem JY {s:ag} (bd:hh s) (cA:s≠[]):jt (fm s)∧du (fm s)=cU s∧(ji s)[0]?=some ((fm s:Nat):Int)∧1≤(ji s).length:=by
 have h1:=(FG s bd).2 (fm s) (by rw [v8 cA]; simp [fm]);have aa:=(xw cA h1.2.2).2
 have aq:ji s=((fm s:Nat):Int)::(gj (s.drop (dec s).2)).map fun n:Nat=>(n:Int):=by
  unfold ji; rw [if_pos (Pk.2 bd)]; unfold dS; rw [v8 cA]; rfl
 exact ⟨h1,aa,by rw [aq]; rfl,by rw [aq]; simp⟩
theorem QJ {s:ag} (bd:hh s) (cA:s≠[]):xH ((ji s).take 1)=cU s:=by
 obtain ⟨h1,aa,aq,a6⟩:=JY bd cA
 have bT:(ji s).take 1=[((fm s:Nat):Int)]:=by
  cases a':ji s with
  | nil=>rw [a'] at a6; simp at a6
  | cons a r=>rw [a'] at aq; simp at aq; simp [aq]
 rw [bT]; unfold xH;rw [if_pos (by simp [Zw h1])];unfold zv; simp [aa]
theorem Zy {s:ag} (bd:hh s) (cA:s≠[]) (h:¬ (1:Int) < ((ji s).length:Int)):xH (ji s)=cU s:=by
 rw [←QJ bd cA,List.take_of_length_le (by omega)]
theorem Zz {c:Nat} (an:jt c) (t:ag):cU (du c++t)=du c:=by
 have h:gj (du c++t)=c::gj t:=u2 an t
 have cA:du c++t≠[]:=by
  intro e
  rw [e] at h; simp [v7] at h
 have hd:(dec (du c++t)).1=c:=by
  rw [v8 cA] at h
  exact (List.cons.inj h).1
 have:=(xw cA (by rw [hd]; exact an.2.2)).2;rw [hd] at this;exact this.symm
theorem ZA {s:ch} {r:List ag} (h:∀ x∈s,x.1≠r):(s.findIdx? fun x=>x.1==r)=none:=by
 rw [List.findIdx?_eq_none_iff];intro x ad;exact beq_eq_false_iff_ne.2 (h x ad)
theorem QK {x t:ag} (ad:hh x) (i_:x≠[]) (aQ:hh t) (akm:t≠[]):(cU t==cU x)=(cU x).isPrefixOf t:=by
 obtain ⟨h1,aa,_⟩:=JY ad i_;rw [Bool.eq_iff_iff,beq_iff_eq];constructor
 · intro e; rw [←e]; exact y_ t
 · intro h;have:=AV h;rw [←aa] at this ⊢;rw [this];exact (Zz h1 _)
def oz (ay:List ag) (i:Nat):List ag:=if i=0 then eZ ay else ay.drop i
theorem QL (ay:List ag):oz ay 0=eZ ay:=rfl
theorem C3 {l:List ag} (aF:p9 l) {i:Nat} {x:ag} (ad:l[i]?=some x) (al:0 < i):x≠[]:=by
 have gE:=(List.getElem?_eq_some_iff.1 ad).1;have a8:l[0]?=some l[0]:=List.getElem?_eq_getElem (by omega);have:=QI aF a8 ad al;intro e; subst e;unfold mx at this
 have aa:Lib.compareBytes l[0] []≥0:=by
  cases l[0] with
  | nil=>decide
  | cons a r=>show (1:Int)≥0; omega
 omega
theorem ZB {l:List ag} (aF:p9 l) {k bw:Nat} {x y:ag} (ad:l[k]?=some x) (i_:x≠[]) (hk:k≤bw) (av:l[bw]?=some y):y≠[]:=by
 rcases Nat.eq_or_lt_of_le hk with e|h
 · subst e;rw [ad] at av; cases av; exact i_
 · exact C3 aF av (by omega)
theorem ZC (s:ag):∀ x∈ji s,-2147483648≤x∧x≤2147483647:=by
 intro x ad;obtain ⟨k,hk⟩:=List.mem_iff_getElem?.1 ad;have:=YN hk;omega
theorem ZD {ay:List ag} (aO:fD ay) {i:Nat} {x:ag} (ad:ay[i]?=some x) (he:x=[]):oz ay i=oz ay (i+1)∧i=0:=by
 have al:i=0:=by
  rcases Nat.eq_zero_or_pos i with h|h
  · exact h
  · exact absurd he (C3 aO.sorted ad h)
 subst al;refine ⟨?_,rfl⟩;rw [QL,(Qf ad he).1]; rfl
theorem A' {ay:List ag} {i:Nat} {x:ag} (ad:ay[i]?=some x) (cA:x≠[]):oz ay i=ay.drop i:=by
 unfold oz;split
 · rename_i h; subst h;rw [(Qg ad cA).1]; rfl
 · rfl
theorem ZE {ay:List ag} {i:Nat} (h:ay.length≤i):oz ay i=[]:=by
 unfold oz;split
 · have:ay=[]:=List.eq_nil_of_length_eq_zero (by omega)
   subst this; rfl
 · exact List.drop_of_length_le h
theorem Gc {ay:List ag} {i:Nat} (h:0 < i):oz ay i=ay.drop i:=by unfold oz; rw [if_neg (by omega)]
theorem QM {ay:List ag} {f:Nat} (aO:fD ay) (hd:Deep f ay) (i:Nat):fD (oz ay i)∧(∀ t∈oz ay i,t≠[])∧Deep f (oz ay i):=by
 unfold oz;split
 · have:=tC aO;exact ⟨this.1,this.2,fun t aQ=>hd t (zc aQ)⟩
 · rename_i al;refine ⟨⟨Jo aO.sorted (List.drop_suffix _ _),fun t aQ=>aO.my t (List.mem_of_mem_drop aQ)⟩,fun t aQ=>?_,fun t aQ=>hd t (List.mem_of_mem_drop aQ)⟩;obtain ⟨k,hk⟩:=List.mem_iff_getElem?.1 aQ;rw [List.getElem?_drop] at hk;exact C3 aO.sorted hk (by omega)
theorem QN (ay:List ag) (i:Nat):h0 (oz ay i)≤h0 ay:=by
 unfold oz;split
 · rw [FX]; exact Nat.le_refl _
 · have:=P9 (ay.take i) (ay.drop i);rw [List.take_append_drop] at this;omega
theorem ZF {s:ch} {r:List ag} {k:Nat} {x:List ag×List bm} (ho:∀ y∈s.take k,y.1≠r) (ad:s[k]?=some x) (he:x.1=r):(s.findIdx? fun x=>x.1==r)=some k:=by
 obtain ⟨hk,rfl⟩:=List.getElem?_eq_some_iff.1 ad;rw [List.findIdx?_eq_some_iff_getElem];refine ⟨hk,by simpa using he,fun j aS=>?_⟩;have:=ho s[j] (by rw [List.mem_take_iff_getElem]; exact ⟨j,by omega,rfl⟩);simpa using this
theorem ZG {s:ch} {r:List ag} {k:Nat} {x:List ag×List bm} (ho:∀ y∈s.take k,y.1≠r) (ad:s[k]?=some x) (he:x.1≠r):∀ y∈s.take (k+1),y.1≠r:=by
 intro y av;rw [List.take_add_one,ad] at av;simp only [Option.toList_some,List.mem_append,List.mem_singleton] at av;rcases av with av|rfl
 · exact ho y av
 · exact he
theorem ZH {s:ch} {r:List ag} {k:Nat} (ho:∀ y∈s.take k,y.1≠r) (hk:s.length≤k):(s.findIdx? fun x=>x.1==r)=none:=by
 rw [List.take_of_length_le hk] at ho;exact ZA ho
theorem ZI {s:ch} {ay:List ag} (bd:(s.findIdx? fun x=>x.1==ay)=none) (kr:(names s).Nodup):(names (s++(ay,[])::[])).Nodup:=by
 have ho:=Jp bd;unfold names;rw [List.map_append,List.nodup_append];refine ⟨kr,by simp,fun a ao b U=>?_⟩;simp only [List.map_cons,List.map_nil,List.mem_singleton] at U;subst U;exact fun e=>ho (by rw [←e]; exact ao)
theorem QO {f:Nat} {s:ch} {ay:List ag} (hd:Deep f ay) (aO:fD ay) (cA:ay≠[]) (aI:(names s).Nodup):(names (eh (f+1) s ay).1).Nodup:=(zd f s ay hd aO cA aI).apart
end Go.ab
namespace Go.ab
open Go.aA
theorem QP {words:List ag} (h:eD words=0):gI words≠[]:=by
 rw [sD h];unfold nv fa;split
 · simp
 · rename_i cA;obtain ⟨es,he⟩:=(AW (rS h).2 (rS h).1 cA).root;intro e;rw [List.map_eq_nil_iff] at e;rw [e] at he; simp at he
theorem ZJ (c:Nat) (cs:List Nat):qS (c::cs)=du c++qS cs:=rfl
end Go.ab
namespace Go.aA
open Go Go.ab
structure gf where
 r:cb
 e:cb
def mC (x:gf):List Value:=[x.r.val,x.e.val]
theorem tJ (x:gf):(mC x).length=2:=rfl
theorem ZK (x:gf):(mC x).all (·.oneCell')=true:=rfl
section
variable {R:Nat→Prop}
def gX (w:World) (F:Nat→Prop) (aT:List gf) (s:ch):Prop:=cx (fun n x=>ak cp w F n.r.val x.1∧ak eg w F n.e.val x.2) aT s
theorem gX.mono {w:World} {F F':Nat→Prop} {aT:List gf} {s:ch} (h:gX w F aT s) (bO:∀ b,F b→F' b):gX w F' aT s:=cx.imp (fun r n ⟨h1,aa⟩=>⟨h1.mono bO,aa.mono bO⟩) h
theorem gX.keep {M:Nat→Prop} {w ah:World} {F:Nat→Prop} {aT:List gf} {s:ch} (h:gX w F aT s) (hm:Mod M w ah) (bO:∀ b,F b→¬ M b):gX ah F aT s:=cx.imp (fun r n ⟨h1,aa⟩=>⟨h1.keep hm bO,aa.keep hm bO⟩) h
theorem gX.len {w:World} {F:Nat→Prop} {aT:List gf} {s:ch} (h:gX w F aT s):aT.length=s.length:=(cx.get h).1
theorem gX.at {w:World} {F:Nat→Prop} {aT:List gf} {s:ch} (h:gX w F aT s) {k:Nat} {n:gf} (aI:aT[k]?=some n):∃ x,s[k]?=some x∧ak cp w F n.r.val x.1∧ak eg w F n.e.val x.2:=by
 have aO:=cx.get h;have gE:=(List.getElem?_eq_some_iff.1 aI).1;have ad:s[k]?=some (s[k]'(by rw [←aO.1]; exact gE)):=(by simp);exact ⟨_,ad,aO.2 k _ _ aI ad⟩
def o0 (aT:List gf) (s:ch):dc R:=⟨fun F w=>gX w (fun b=>F b∨R b) aT s,fun h hm bO e3=>gX.keep h hm fun b U=>U.elim (bO b) (e3 b)⟩
def nw (rY ku:TypeId) (dF:Nat) (s:ch) (aF:List Value):dc R:=nt fun x:Value×List gf=>wg (x.2.map (fun n=>n.r.val)=aF) (bA [az dF [x.1] rY,bb mC ku 2 x.1 x.2,o0 x.2 s])
theorem ar.and {bB:Nat→Prop} {w0 w:World} {L:List (dc R)} {i:Nat} {P:Prop} {A:dc R} (h:ar R bB w0 w L) (al:L[i]?=some (wg P A)):P∧ar R bB w0 w (L.set i A):=by
 obtain ⟨F,h1,_⟩:=h.get al;exact ⟨h1.1,h.imp al fun F bO=>bO.2⟩
theorem ar.ZL {bB:Nat→Prop} {w0 w:World} {L:List (dc R)} {i k:Nat} {aT:List gf} {s:ch} {n:gf} (h:ar R bB w0 w L) (al:L[i]?=some (o0 aT s)) (aI:aT[k]?=some n):∃ x,s[k]?=some x∧ak cp w (aR 0 w.heap.size) n.r.val x.1∧ak eg w (aR 0 w.heap.size) n.e.val x.2:=by
 obtain ⟨F,h1,aa⟩:=h.get al;have aq:gX w (aR 0 w.heap.size) aT s:=gX.mono h1 fun b U=>⟨Nat.zero_le _,U.elim (aa b) (h.u' b)⟩
 exact aq.at aI
theorem ar.QQ {bB:Nat→Prop} {w0 w:World} {L:List (dc R)} {i:Nat} {aT:List gf} {s:ch} (h:ar R bB w0 w L) (al:L[i]?=some (o0 aT s)):aT.length=s.length:=by
 obtain ⟨F,h1,_⟩:=h.get al;exact gX.len h1
theorem ar.Gd {bB:Nat→Prop} {w0 w:World} {L:List (dc R)} {i k:Nat} {rY ku:TypeId} {dF:Nat} {s:ch} {aF:List Value} {v:Value} {x:List ag×List bm} (h:ar R bB w0 w L) (al:L[i]?=some (nw rY ku dF s aF)) (bG:aF[k]?=some v) (ad:s[k]?=some x):ak cp w (aR 0 w.heap.size) v x.1:=by
 obtain ⟨F,⟨⟨qW,aT⟩,hm,fe,h1,aa,aq⟩,bO⟩:=h.get al;have a6:gX w (fun b=>fe 2 b∨R b) aT s:=h1 2 _ rfl;have bT:gX w (aR 0 w.heap.size) aT s:=gX.mono a6 fun b U=>⟨Nat.zero_le _,U.elim (fun h=>(aa 2 b h).2) (h.u' b)⟩
 have CL:aT.map (fun n=>n.r.val)=aF:=hm;subst CL;rw [List.getElem?_map] at bG;obtain ⟨n,aI,rfl⟩:=Option.map_eq_some_iff.1 bG;obtain ⟨YU,rV,ed,_⟩:=bT.at aI;rw [ad] at rV; cases rV;exact ed
theorem ZM {aT:List gf} {s:ch} {v:Value} {ay:List ag} {n:gf} {F:Nat→Prop} {w:World} (bG:v=n.r.val) (he:n.e.val=.slice none 0 0) (h:(bA (R:=R) [o0 aT s,ff cp [(v,ay)]]).p F w):(o0 (R:=R) (aT++[n]) (s++[(ay,[])])).p F w:=by
 obtain ⟨gb,cO,h1,aa,aq,a6⟩:=wj h;exact cx.app (gX.mono h1 fun b U=>U.imp (aq b) id) (.cons ⟨bG▸(QG aa).mono fun b U=>U.imp (a6 b) id,he▸ak.nil⟩ .nil)
theorem QR {rY ku:TypeId} {dF:Nat} {s:ch} {aF:List Value} {F:Nat→Prop} {w:World} (h:(nw (R:=R) rY ku dF s aF).p F w):aF.length=s.length:=by
 obtain ⟨⟨qW,aT⟩,hm,fe,h1,aa,aq⟩:=h;have a6:gX w (fun b=>fe 2 b∨R b) aT s:=h1 2 _ rfl;have CL:aT.map (fun n=>n.r.val)=aF:=hm;rw [←CL,List.length_map]; exact gX.len a6
theorem QS {α β:Type} {Q:α→β→Prop}:∀ {a:List α} {b:List β} {i:Nat} {x:α} {y:β},cx Q a b→Q x y→cx Q (a.set i x) (b.set i y)
 | _,_,_,_,_,.nil,_=>.nil
 | _,_,0,_,_,.cons h r,dL=>.cons dL r
 | _,_,i+1,_,_,.cons h r,dL=>.cons h (QS r dL)
theorem ZN {aT:List gf} {s:ch} {k:Nat} {n:gf} {hd:cb} {ay:List ag} {rZ es:List bm} {e:TypeId} {v:Value} {F:Nat→Prop} {w:World} (aI:aT[k]?=some n) (ad:s[k]?=some (ay,rZ)) (bG:v=hd.val) (h:(bA (R:=R) [o0 aT s,bb eg e 2 v es]).p F w) :
 (o0 (R:=R) (aT.set k (gf.mk n.r hd)) (s.set k (ay,es))).p F w:=by
 obtain ⟨gb,cO,h1,aa,aq,a6⟩:=wj h;have bT:gX w (fun b=>F b∨R b) aT s:=gX.mono h1 fun b U=>U.imp (aq b) id
 obtain ⟨x,rV,ed,_⟩:=bT.at aI;rw [ad] at rV; cases rV;exact QS bT ⟨ed,bG▸(vd aa).mono fun b U=>.inl (a6 b U)⟩
end
theorem ZO {aT:List gf} {k:Nat} {n:gf} {hd:cb} (aI:aT[k]?=some n):(aT.set k (gf.mk n.r hd)).map (fun n=>n.r.val)=aT.map (fun n=>n.r.val):=by
 obtain ⟨h,rfl⟩:=List.getElem?_eq_some_iff.1 aI;rw [List.map_set];refine List.ext_getElem? fun i=>?_
 rw [List.getElem?_set];split
 · rename_i e; subst e;simp [h]
 · rfl
theorem wk {α:Type} {a b:List α} {x:α} {n:Nat} (h:n=a.length):(a++x::b)[n]?=some x:=by
 subst h;rw [List.getElem?_append_right (Nat.le_refl _),Nat.sub_self]; rfl
theorem ZP {α:Type} {a b:List α} {x y:α} {n:Nat} (h:n=a.length):(a++x::b).set n y=a++y::b:=by
 subst h;rw [List.set_append_right _ _ (Nat.le_refl _),Nat.sub_self]; rfl
end Go.aA
namespace Go.aA
open Go Go.ab
theorem gX.ext {w ah:World} {F:Nat→Prop} {aT:List gf} {s:ch} (h:gX w F aT s) (hm:Ext w ah):gX ah F aT s:=gX.keep h hm fun _ _ x=>x
theorem gX.bt {w ah:World} {cn al g:Nat} {aT:List gf} {s:ch} (h:gX w (aR cn al) aT s) (hm:Mod (b5 g) w ah) (aO:g≤cn∨al < g):gX ah (aR cn al) aT s:=gX.keep h hm fun b U ad=>by unfold aR b5 at *; omega
theorem ZQ {R F:Nat→Prop} {rY ku:TypeId} {dF n:Nat} {s:ch} {aF:List Value} {w:World} (h:(nw (R:=R) rY ku dF s aF).p F w) (bO:∀ b,F b→b < w.heap.size∧n≤b) (e3:∀ b,R b→b < w.heap.size) :
 ∃ qW aT,iV w n w.heap.size dF [qW]∧ak mC w (aR n w.heap.size) qW aT∧gX w (aR 0 w.heap.size) aT s:=by
 obtain ⟨⟨qW,aT⟩,hm,fe,h1,aa,aq⟩:=h;have qb:∀ i b,fe i b→n≤b∧b < w.heap.size:=fun i b U=>⟨(bO b (aa i b U).1.1).2,(aa i b U).2⟩
 have tG:=h1 0 _ rfl;have bw:=h1 1 _ rfl;have cB:=h1 2 _ rfl;exact ⟨qW,aT,⟨(qb 0 _ tG.2).1,(qb 0 _ tG.2).2,tG.1.row⟩,(vd bw).mono fun b U=>qb 1 b U,gX.mono cB fun b U=>⟨Nat.zero_le _,U.elim (fun h=>(qb 2 b h).2) (e3 b)⟩⟩
theorem ZR (words:List ag):(eh 13 [] words).1=nv words:=by
 unfold nv;split
 · rename_i h; subst h; rfl
 · rfl
theorem QT {s:ch} {n:Int} {x:List ag×List bm} (h:0≤n) (ad:s[n.toNat]?=some x):nodeAt (fa s) n=(iB x.1,x.2):=by
 have:=zm ad;rw [show ((n.toNat:Nat):Int)=n from by omega] at this;exact this
theorem ZS {s:ch} {n:Int} (h:n < 0∨(s.length:Int)≤n):nodeAt (fa s) n=(false,[]):=CR (by rw [tF]; exact h)
theorem ZT {r:List ag} {x:ag} (ad:r[0]?=some x) {b:Bool} (U:b=(x==[])):b=iB r:=by
 unfold iB;rw [U,List.head?_eq_getElem?,ad]
 cases x<;>simp
theorem ZU {r:List ag} (h:¬ (((r.length:Nat):Int) > 0)):false=iB r:=by
 have:r=[]:=List.eq_nil_of_length_eq_zero (by omega)
 subst this; rfl
end Go.aA
namespace Go.aA
open Go
theorem QU {P:Program} {f:FuncId} {R:Ending→World→Prop} {n:Nat} {E:Env} {k:List Item} {w:World} {fn:Func} {t u:Tmp} {ty:TypeId} {b off sz by_:Nat} {z cs:List Value} {v2:Value} (bd:P.funcs[f]?=some fn) (oT:fn.results=#[.cell t ty,.tmp u])
 (bG:mv t E=some (ptr b off)) (aQ:dX P ty=some (true,sz,by_,z)) (aB:Row w b off cs) (aI:cs.length=sz) (aa:mv u E=some v2) (e3:R (.returned (.tuple #[.agg cs.toArray,v2])) w):gQ P f R n E (.code .ret::k) w:=fun a ao rL U hk cs' =>
 ⟨_,w,{ rL.at a (.code .ret::k) with mode:=.returning },e3,.one step_ret,U,AE ao bd U hk (by
  have aO:a.tmps[t]?.getD undef=.pointer (some ⟨b,off,none⟩):=by have:=ao.has t _ bG; simpa [ptr] using this
  have eA:a.tmps[u]?.getD undef=v2:=by simpa using ao.has u _ aa
  simp [results,oT,aO,eA,asAddr,Sem.run_bind,Result.andThen,I3 aQ aB aI])⟩
end Go.aA
namespace Go.ab
open Go.aA
theorem ZV {words:List ag} (h:eD words=0):1≤(nv words).length∧(nv words).length≤2881:=by
 unfold nv;split
 · simp
 · rename_i cA;obtain ⟨es,he⟩:=(AW (rS h).2 (rS h).1 cA).root;have:=(List.getElem?_eq_some_iff.1 he).1;have:=Qo h;omega
theorem ZW {words:List ag} (h:eD words=0):∀ y∈nv words,y.1.length≤60:=by
 unfold nv;split
 · simp
 · exact CY 13 [] words (by simp) (CX h).1
end Go.ab
namespace Go.aA
open Go Go.ab
def vf {R:Nat→Prop} (v:Value) (N:List bC):dc R:=⟨fun F w=>∃ cn al,gp 0 w cn al v N∧al≤w.heap.size∧∀ b,cn≤b→b < al→F b,fun ⟨cn,al,h1,aq,aa⟩ hm bO _=>⟨cn,al,by
 rcases h1 with h1|⟨b,fJ,aT,bw,cB,⟨d_,hS,ih⟩,nV,mO⟩
 · exact .inl h1
 · exact .inr ⟨b,fJ,aT,bw,cB,⟨d_,hS,ih.keep hm (bO b (aa b d_ hS))⟩,nV.keep hm fun b U=>bO b (aa b U.1 U.2),mO.keep hm fun b U=>bO b (aa b U.1 U.2)⟩,Nat.le_trans aq hm.size,aa⟩⟩
theorem ar.QV {R bB:Nat→Prop} {w0 w:World} {L:List (dc R)} {i:Nat} {v:Value} {N:List bC} (h:ar R bB w0 w L) (al:L[i]?=some (vf v N)):∃ cn up,gp 0 w cn up v N∧up≤w.heap.size:=by
 obtain ⟨F,⟨cn,up,h1,aa,_⟩,_⟩:=h.get al;exact ⟨cn,up,h1,aa⟩
theorem ar.JZ {R bB:Nat→Prop} {w0 w ah:World} {L:List (dc R)} {cn al:Nat} {v:Value} {N:List bC} (h:ar R bB w0 w L) (hm:Ext w ah) (aO:gp 0 ah cn al v N) (h1:w.heap.size≤cn) (aa:al≤ah.heap.size):ar R bB w0 ah (L++[vf v N]):=
 h.new (F:=aR cn al) hm ⟨cn,al,aO,aa,fun b ea q2=>⟨ea,q2⟩⟩ fun b U=>⟨Nat.le_trans h1 U.1,Nat.lt_of_lt_of_le U.2 aa⟩
end Go.aA
namespace Go.ab
open Go.aA
theorem QW {words:List ag} (h:eD words=0):∀ x∈gI words,x.2.length≤60:=by
 have c7:=A8 h;intro x ad;rw [sD h] at ad;obtain ⟨y,av,rfl⟩:=List.mem_map.1 ad;have h1:=(cx.get (c7.node y av).1).1;have aa:=JS _ (eZ y.1) (Nat.le_refl _);have aq:=CW y.1;have a6:=ZW h y av;simp only; omega
theorem Ba {words:List ag} (h:eD words=0):1≤(gI words).length∧(gI words).length≤2881:=by
 rw [sD h,tF]; exact ZV h
theorem J0 {words:List ag} (h:eD words=0):(gq (gI words)).length≤3000000:=by
 have h1:=Zm (QW h);have aa:=(Ba h).2;have aq:(gI words).length*60≤2881*60:=Nat.mul_le_mul_right _ aa;rw [JX]; omega
theorem QX {g:List bC} (h:(gq g).length≤3000000):(xF g).length≤3000010:=by
 unfold xF;split
 · simp
 · rw [nP]; rw [JX] at h; omega
theorem ZX (g:List bC) (h:(gq g).length≤3000000):(xF g).length≤3000010:=QX h
theorem Ge {words:List ag} (h:eD words=0):gI words≠[]:=by
 intro e;have:=(Ba h).1;rw [e] at this; simp at this
theorem ZY {words:List ag} (h:eD words=0):xF (gI words)=kc words:=by
 unfold kc; rw [if_pos h,JW (Ge h)]
theorem ZZ {words:List ag} (h:eD words=0):F9 (gI words)=eD words:=by
 rw [h]; exact (QC (Ge h)).symm
theorem Gf (words:List ag):(kc words).length≤3000010:=by
 unfold kc;split
 · rename_i h;rw [←JW (Ge h)]; exact QX (J0 h)
 · simp
theorem Bb {words:List ag} (h:eD words=0):jJ (gI words)=kc words:=by unfold kc; rw [if_pos h]
end Go.ab
namespace Go.ab
open Go.aA
def sG (l:List ag):Prop:=∀ s∈l,s.length≤1000000000
theorem sG.at {l:List ag} (h:sG l) {k:Nat} {x:ag} (ad:l[k]?=some x):x.length≤1000000000:=h x (List.mem_of_getElem? ad)
theorem Z0 {l:List ag} (h:qP l=false):sG l:=by
 intro s aF;unfold qP at h;simp only [Bool.or_eq_false_iff,List.any_eq_false,decide_eq_true_eq] at h;have:=h.2 s aF;omega
end Go.ab
namespace Go.ab
open Go.aA
structure r0 (c:b1):Prop where
 words:sG c.words
 cuts:∀ k∈c.cuts,k.text.length≤1000
 wl:c.words.length≤80
 cl:c.cuts.length≤10
theorem r0.of {c:b1} (h:uZ c=false):r0 c:=by
 unfold uZ at h;simp only [Bool.or_eq_false_iff,decide_eq_false_iff_not] at h;obtain ⟨⟨h1,aa⟩,aq⟩:=h;refine ⟨Z0 aq,fun k hk=>?_,Zp aq,by omega⟩;rw [List.any_eq_false] at aa;have:=aa k hk;simp only [decide_eq_true_eq] at this; omega
theorem Z1 (a b:Key):Fu a b=if nR a.len b.len≠0 then nR a.len b.len else Lib.compareBytes a.text b.text:=by
 unfold Fu;simp only [mL];split
 · rfl
 · split
   · rfl
   · omega
theorem Gg {a b:Key}:nn a b=true↔a.len < b.len∨a.len=b.len∧Lib.compareBytes a.text b.text < 0:=by
 unfold nn;rw [decide_eq_true_eq,Z1];unfold nR;by_cases h1:a.len < b.len
 · simp [h1]
 · by_cases aa:a.len > b.len
   · simp [h1,aa]; omega
   · have:a.len=b.len:=by omega
     simp [this]
theorem Z2 {a b:Key} (h:a.len < b.len):true=nn a b:=(Gg.2 (.inl h)).symm
theorem Z3 {a b:Key} (h1:¬ a.len < b.len) (aa:¬ a.len=b.len):false=nn a b:=by
 cases h:nn a b with
 | false=>rfl
 | true=>rw [Gg] at h; rcases h with h|h; exact absurd h h1; exact absurd h.1 aa
theorem Z4 {a b:Key} {c:Bool} (aa:a.len=b.len) (h:c=decide (Lib.compareBytes a.text b.text < 0)):c=nn a b:=by
 cases gx:nn a b with
 | true =>
  rw [Gg] at gx
  rcases gx with gx|gx
  · omega
  · rw [h]; exact decide_eq_true gx.2
 | false =>
  rw [h]
  refine decide_eq_false fun ad=>?_
  have:=Gg.2 (.inr ⟨aa,ad⟩)
  rw [gx] at this; cases this
theorem Z5 {cuts:List Key} {w:ag} {j n:Nat} (hw:word w=true) (h:n=((cuts.take j).filter fun c=>!nn ⟨hQ w,w⟩ c).length) (aS:cuts.length≤j):(n:Int)=ofM cuts w:=by
 rw [List.take_of_length_le aS] at h;unfold ofM; rw [if_pos hw,h]; rfl
theorem Z6 {cuts:List Key} {w:ag} (hw:word w=false):(-1:Int)=ofM cuts w:=by unfold ofM; rw [hw]; rfl
theorem Z7 (cuts:List Key) (w:ag):-1≤ofM cuts w∧ofM cuts w≤cuts.length:=by
 unfold ofM Je;split
 · have:=List.length_filter_le (fun c=>!nn ⟨hQ w,w⟩ c) cuts; omega
 · omega
theorem Z8 {cuts:List Key} {w:ag} (hw:word w=true):0≤ofM cuts w:=by unfold ofM; rw [if_pos hw]; omega
theorem Z9 {cuts:List Key} {shard:Int} {w:ag} (hw:word w=true) (h:ofM cuts w=shard):sx cuts shard w=true:=OV (Z8 hw) h
theorem Z_ {cuts:List Key} {shard:Int} {w:ag} (hw:word w=false):sx cuts shard w=false:=OW (by unfold ofM; rw [hw]; simp)
theorem Gh (cuts:List Key) (words:List ag) (shard:Int):(p8 cuts words shard).length≤words.length:=List.length_filter_le _ _
theorem Z' {cuts:List Key} {words:List ag} {shard:Int} (h:sG words):sG (p8 cuts words shard):=fun s aF=>h s (List.mem_filter.1 aF).1
theorem aaa {cuts:List Key} {words:List ag} {shard:Int} (h:uW words):uW (p8 cuts words shard):=fun s aF=>h s (List.mem_filter.1 aF).1
theorem aab {c:b1} {shard:Int} {j:Nat} {l:List Int} (al:l=(List.range j).map (fun j:Nat=>1+(shard+(j:Int)) % c.workers)) (h1:¬ (j:Int) < c.db) (aa:j≤c.db.toNat) (zw:j=0∨within shard 0 ((hs c:Int)-1)=true):l=iA c shard:=by
 by_cases hw:within shard 0 ((hs c:Int)-1)=true
 · exact Jh hw al (by omega)
 · have aS:j=0:=zw.resolve_right hw;subst aS;rw [al];exact FA (by simpa using hw)
theorem aac {c:b1} {shard:Int} {j:Nat} {l:List Int} (al:l=(List.range j).map (fun j:Nat=>1+(shard+(j:Int)) % c.workers)) (h1:shard < 0∨(hs c:Int)≤shard) (zw:j=0∨within shard 0 ((hs c:Int)-1)=true):l=iA c shard:=by
 have hw:within shard 0 ((hs c:Int)-1)=false:=by
  unfold within
  rcases h1 with h1|h1
  · rw [decide_eq_false (by omega)]; rfl
  · rw [decide_eq_false (p:=shard≤_) (by omega),Bool.and_false]
 have aS:j=0:=zw.resolve_right (by rw [hw]; simp);subst aS;rw [al];exact FA hw
theorem aad {shard:Int} {c:b1} (a8:0≤shard) (h1:shard < (hs c:Int)):within shard 0 ((hs c:Int)-1)=true:=by
 unfold within; rw [decide_eq_true a8,decide_eq_true (by omega)]; rfl
theorem aae {W s:Int} {i j:Nat} (po:(i:Int) < W) (aS:(j:Int) < W) (h:(s+(i:Int)) % W=(s+(j:Int)) % W):i=j:=by
 have h1:=Int.emod_add_mul_ediv (s+(i:Int)) W;have aa:=Int.emod_add_mul_ediv (s+(j:Int)) W;rw [h] at h1;have aq:W*((s+i) / W-(s+j) / W)=(i:Int)-j:=(by rw [Int.mul_sub]; omega);by_cases dL:(s+(i:Int)) / W-(s+(j:Int)) / W=0
 · rw [dL] at aq; omega
 · exfalso;rcases Int.lt_or_gt_of_ne dL with a6|a6
   · have:W*((s+i) / W-(s+j) / W)≤W*(-1):=Int.mul_le_mul_of_nonneg_left (by omega) (by omega)
     omega
   · have:W*1≤W*((s+i) / W-(s+j) / W):=Int.mul_le_mul_of_nonneg_left (by omega) (by omega)
     omega
theorem aaf (c:b1) (shard:Int) (x:Int):(iA c shard).count x=if (iA c shard).contains x=true then 1 else 0:=by
 have aI:(iA c shard).Nodup:=by
  unfold iA
  split
  · rename_i hw
    have aF:=mw hw
    have hm:=tw (Fz (c:=c) (by omega))
    rw [List.Nodup,List.pairwise_map]
    refine List.Pairwise.imp_of_mem (R:=fun a b=>a≠b) (fun {a b} ao U mz e=>?_) (List.nodup_range (n:=c.db.toNat))
    have h1:=List.mem_range.1 ao
    have aa:=List.mem_range.1 U
    exact mz (aae (W:=c.workers) (s:=shard) (by omega) (by omega) (by omega))
  · simp
 by_cases h:x∈iA c shard
 · rw [if_pos (by simpa using h)];have h1:=List.nodup_iff_count.1 aI x;have aa:=List.count_pos_iff.2 h;omega
 · rw [if_neg (by simpa using h)];exact List.count_eq_zero.2 h
theorem aag {c:b1} {worker:Int} {k j:Nat} {l c5:List Int} (h:l=((List.range k).filter (fun s:Nat=>(iA c (s:Int)).contains worker)).map (fun s:Nat=>(s:Int))) (aa:c5=l++List.replicate (((iA c (k:Int)).take j).count worker) (k:Int)) (aS:(iA c (k:Int)).length≤j) :
 c5=((List.range (k+1)).filter (fun s:Nat=>(iA c (s:Int)).contains worker)).map (fun s:Nat=>(s:Int)):=by
 rw [List.take_of_length_le aS,aaf] at aa;rw [aa,List.range_succ,List.filter_append,List.map_append,←h];congr 1
 by_cases an:(iA c (k:Int)).contains worker=true
 · rw [if_pos an,List.filter_cons_of_pos (p:=fun s:Nat=>(iA c (s:Int)).contains worker) an]; rfl
 · rw [if_neg an,List.filter_cons_of_neg (p:=fun s:Nat=>(iA c (s:Int)).contains worker) an]; rfl
theorem aah {l c5 w:List Int} {worker x k:Int} {j:Nat} (aa:c5=l++List.replicate ((w.take j).count worker) k) (ad:w[j]?=some x) (he:x=worker):c5++[k]=l++List.replicate ((w.take (j+1)).count worker) k:=by
 rw [aa,List.take_add_one,ad,List.count_append,he];simp [List.replicate_succ']
theorem aai {l c5 w:List Int} {worker x k:Int} {j:Nat} (aa:c5=l++List.replicate ((w.take j).count worker) k) (ad:w[j]?=some x) (he:¬ x=worker):c5=l++List.replicate ((w.take (j+1)).count worker) k:=by
 rw [aa,List.take_add_one,ad,List.count_append];simp [he]
def tK (c:b1) (shard:Int):List ag:=if 0≤shard∧shard < (hs c:Int) then p8 c.cuts c.words shard else []
theorem aaj {c:b1} {shard:Int} (h:shard < 0∨(hs c:Int)≤shard):[]=tK c shard:=by unfold tK; rw [if_neg (by omega)]
theorem QY {c:b1} {shard:Int} (h:0≤shard) (aa:shard < (hs c:Int)):p8 c.cuts c.words shard=tK c shard:=by unfold tK; rw [if_pos ⟨h,aa⟩]
def fP (c:b1) (shard:Int):List UInt8:=if 0≤shard∧shard < (hs c:Int) then kc (p8 c.cuts c.words shard) else []
def vg (c:b1) (shard:Int):Int:=if 0≤shard∧shard < (hs c:Int) then eD (p8 c.cuts c.words shard) else 4
theorem Gi {c:b1} {shard:Int} (h:shard < 0∨(hs c:Int)≤shard):([]:List UInt8)=fP c shard∧(4:Int)=vg c shard:=by unfold fP vg; rw [if_neg (by omega),if_neg (by omega)]; exact ⟨rfl,rfl⟩
theorem C4 {c:b1} {shard:Int} (h:0≤shard) (aa:shard < (hs c:Int)):kc (p8 c.cuts c.words shard)=fP c shard∧eD (p8 c.cuts c.words shard)=vg c shard:=by unfold fP vg; rw [if_pos ⟨h,aa⟩,if_pos ⟨h,aa⟩]; exact ⟨rfl,rfl⟩
theorem J1 (c:b1) (shard:Int):(fP c shard).length≤3000010:=by
 unfold fP; split
 · exact Gf _
 · simp
theorem QZ (c:b1) (shard:Int):(iA c shard).length≤3:=by
 unfold iA;split
 · rename_i hw;have aF:=mw hw;have hm:=tw (Fz (c:=c) (by omega));simp; omega
 · simp
theorem vh (c:b1) (worker:Int):(bY c worker).length≤6:=by
 unfold bY;rw [List.length_map];have h1:=List.length_filter_le (fun s:Nat=>(iA c (s:Int)).contains worker) (List.range (hs c));have aa:=qQ c;rw [List.length_range] at h1; omega
end Go.ab
theorem Go.ab.aak (c:Go.ab.b1) (shard:Int):(Go.ab.tK c shard).length≤c.words.length:=by
 unfold Go.ab.tK; split
 · exact Go.ab.Gh _ _ _
 · simp
theorem Go.ab.Q0 (c:Go.ab.b1) (shard:Int):0≤Go.ab.vg c shard∧Go.ab.vg c shard≤100:=by
 unfold Go.ab.vg; split
 · have:=Go.ab.uX (Go.ab.p8 c.cuts c.words shard); omega
 · omega
namespace Go.ab
open Go.aA
def dn (b:List UInt8) (size:Nat) (s:Int×Bool):Int×(Int×Bool):=if ln b s.1 size=true then (iP b s.1 size,(s.1+size,s.2)) else (0,(s.1,true))
theorem xK {b:List UInt8} {size:Nat} {a:Int} {q:Bool} (h:ln b a size=false):dn b size (a,q)=(0,(a,true)):=by unfold dn; rw [if_neg (by simp [h])]
theorem tL {b:List UInt8} {size:Nat} {a:Int} {q:Bool} (h:ln b a size=true):dn b size (a,q)=(iP b a size,(a+size,q)):=by unfold dn; rw [if_pos h]
theorem Q1 {b:List UInt8} {a:Int} {size:Nat} (h:size≤4):iP b a size < 4294967296:=by
 unfold iP;split
 · have:=JU (i:=size) (l:=b.drop a.toNat) h;simp only [Int.toNat_natCast]; omega
 · omega
theorem pz {b:List UInt8} {size:Nat} {a f a2:Int} {q q2:Bool} (aF:size≤4) (ao:0≤a∧a≤b.length) (h:dn b size (a,q)=(f,(a2,q2))):0≤f∧f < 4294967296∧a≤a2∧a2≤b.length∧a2≤a+size∧(q=true→q2=true)∧(q2=false→a2=a+size):=by
 have a8:=CZ b a size;have h1:=Q1 (b:=b) (a:=a) aF
 cases c7:ln b a size with
 | false =>
  rw [xK c7] at h
  simp only [Prod.mk.injEq] at h
  obtain ⟨rfl,rfl,rfl⟩:=h
  exact ⟨by omega,by omega,by omega,by omega,by omega,fun _=>rfl,fun h=>by cases h⟩
 | true =>
  rw [tL c7] at h
  simp only [Prod.mk.injEq] at h
  obtain ⟨rfl,rfl,rfl⟩:=h
  unfold ln at c7
  have:=of_decide_eq_true c7
  exact ⟨a8,h1,by omega,by omega,by omega,id,fun _=>rfl⟩
theorem r1 {b:List UInt8} {a f a2:Int} {q q2:Bool} {size:Nat} (h:dn b size (a,q)=(f,(a2,q2))) (aF:size≤2):f < 65536:=by
 cases c7:ln b a size with
 | false =>
  rw [xK c7] at h
  simp only [Prod.mk.injEq] at h; omega
 | true =>
  rw [tL c7] at h
  simp only [Prod.mk.injEq] at h
  rw [←h.1]
  unfold iP
  rw [if_pos c7]
  have h1:=JT (l:=(b.drop a.toNat).take size)
  have aa:((b.drop a.toNat).take size).length≤2:=by rw [List.length_take]; omega
  have aq:256 ^ ((b.drop a.toNat).take size).length≤256 ^ 2:=Nat.pow_le_pow_right (by omega) aa
  simp only [Int.toNat_natCast]; omega
def qd (b:List UInt8) (s:Int×Bool):bm×(Int×Bool):=
 let r:=dn b 4 s
 let t:=dn b 2 (r.2.1,r.2.2 || decide (r.1 > 1114111))
 (bm.mk (IntKind.i32.wrap r.1) t.1,t.2)
def i' (b:List UInt8):Nat→Int×Bool→List bm×(Int×Bool)
 | 0,s=>([],s)
 | n+1,s=>if s.2=true then ([],s) else ((qd b s).1::(i' b n (qd b s).2).1,(i' b n (qd b s).2).2)
def kJ (b:List UInt8) (s:Int×Bool):bC×(Int×Bool):=
 let f:=dn b 1 s
 let c:=dn b 2 (f.2.1,f.2.2 || decide (f.1 > 1))
 let r:=i' b c.1.toNat c.2
 ((decide (f.1=1),r.1),r.2)
def jS (b:List UInt8):Nat→Int×Bool→List bC×(Int×Bool)
 | 0,s=>([],s)
 | n+1,s=>if s.2=true then ([],s) else ((kJ b s).1::(jS b n (kJ b s).2).1,(jS b n (kJ b s).2).2)
def o1 (b:List UInt8) (n:Nat) (eo:Int×Bool) (i:Nat) (es:List bm) (s:Int×Bool):Prop:=i' b n eo=(es++(i' b (n-i) s).1,(i' b (n-i) s).2)
theorem o1.start (b:List UInt8) (n:Nat) (s:Int×Bool):o1 b n s 0 [] s:=by unfold o1; simp
theorem o1.step {b:List UInt8} {n i:Nat} {eo:Int×Bool} {a:Int} {es:List bm} {e:bm} {iz:Int×Bool} (h:o1 b n eo i es (a,false)) (al:i < n) (he:qd b (a,false)=(e,iz)):o1 b n eo (i+1) (es++[e]) iz:=by
 unfold o1 at *;rw [h];obtain ⟨m,hm⟩:∃ m,n-i=m+1:=⟨n-i-1,by omega⟩;rw [hm,show n-(i+1)=m from by omega]
 conv=>lhs; unfold i'
 rw [if_neg (by simp),he];simp
theorem o1.bad {b:List UInt8} {n i:Nat} {eo:Int×Bool} {a:Int} {es:List bm} (h:o1 b n eo i es (a,true)):i' b n eo=(es,(a,true)):=by
 unfold o1 at h;rw [h]
 cases n-i with
 | zero=>simp [i']
 | succ m=>unfold i'; simp
theorem o1.fin {b:List UInt8} {n i:Nat} {eo:Int×Bool} {es:List bm} {s:Int×Bool} (h:o1 b n eo i es s) (al:n≤i):i' b n eo=(es,s):=by
 unfold o1 at h;rw [show n-i=0 from by omega] at h;rw [h]; simp [i']
end Go.ab
namespace Go.ab
open Go.aA
theorem aal {b:List UInt8} {s:Int×Bool} {f hi t a2:Int} {ea X q2:Bool} (h1:(f,hi,ea)=dn b 4 s) (wm:X=(ea || decide (f > 1114111))) (aa:(t,a2,q2)=dn b 2 (hi,X)):qd b s=(bm.mk (IntKind.i32.wrap f) t,(a2,q2)):=by
 unfold qd;simp only [←h1,←wm,←aa]
theorem Gj {b:List UInt8} {a:Int} {q:Bool} {f hi c a2 a3:Int} {ea X q2 fb fin:Bool} {es:List bm} (h1:(f,hi,ea)=dn b 1 (a,q)) (wm:X=(ea || decide (f > 1))) (aa:(c,a2,q2)=dn b 2 (hi,X)) (aq:i' b c.toNat (a2,q2)=(es,(a3,fb))) (bd:fin=(f==1)):kJ b (a,q)=((fin,es),(a3,fb)):=by
 unfold kJ;simp only [←h1,←wm,←aa,aq,bd];rfl
end Go.ab
namespace Go.aA
open Go Go.ab
def xL {R:Nat→Prop} (ku J2:TypeId) (b:Nat) (fin:Bool) (es:List bm):dc R:=nt fun v:Value=>bA [az b [.bool fin,v] ku,bb eg J2 2 v es]
end Go.aA
namespace Go.ab
open Go.aA
def mD {cr:Type} (g:cr→bm→Bool×cr):cr→List bm→Bool×cr
 | s,[]=>(true,s)
 | s,e::r=>if (g s e).1=true then mD g (g s e).2 r else (false,(g s e).2)
theorem Q2 {cr:Type} {g:cr→bm→Bool×cr} {s:cr} {l:List bm} {k:Nat} {e:bm} {R:Bool×cr} (h:R=mD g s (l.drop k)) (ad:l[k]?=some e) (aO:(g s e).1=true):R=mD g (g s e).2 (l.drop (k+1)):=by
 rw [h,zn ad]
 conv=>lhs; unfold mD
 rw [if_pos aO]
theorem Q3 {cr:Type} {g:cr→bm→Bool×cr} {s:cr} {l:List bm} {k:Nat} {e:bm} {R:Bool×cr} (h:R=mD g s (l.drop k)) (ad:l[k]?=some e) (aO:(g s e).1=false):R=(false,(g s e).2):=by
 rw [h,zn ad]
 conv=>lhs; unfold mD
 rw [if_neg (by simp [aO])]
theorem Q4 {cr:Type} {g:cr→bm→Bool×cr} {s:cr} {l:List bm} {k:Nat} {R:Bool×cr} (h:R=mD g s (l.drop k)) (hk:l.length≤k):R=(true,s):=by
 rw [h,List.drop_of_length_le hk]; rfl
def ha (N:List bC):Nat→Nat→Int→List Int→Bool×List Int
 | 0,_,_,st=>(false,st)
 | f+1,n,d,st=>match N[n]? with
  | none=>(false,st)
  | some x=>if st[n]?=some 2 then (true,st) else if st[n]?=some 1∨d > 12∨(x.1=false∧x.2=[]) then (false,st) else
   if (mD (fun st e=>ha N f e.to.toNat (d+1) st) (st.set n 1) x.2).1=true then (true,(mD (fun st e=>ha N f e.to.toNat (d+1) st) (st.set n 1) x.2).2.set n 2) else (false,(mD (fun st e=>ha N f e.to.toNat (d+1) st) (st.set n 1) x.2).2)
section
variable {N:List bC} {f n:Nat} {d:Int} {st:List Int} {x:bC} {y:Int}
theorem C5 (ad:N[n]?=some x) (av:st[n]?=some y) (h:y=2):ha N (f+1) n d st=(true,st):=by
 subst h; unfold ha; rw [ad]; simp only; rw [av,if_pos rfl]
theorem Gk (ad:N[n]?=some x) (av:st[n]?=some y) (h:¬ y=2) (aa:y=1∨d > 12∨(x.1=false∧x.2=[])):ha N (f+1) n d st=(false,st):=by
 unfold ha; rw [ad]; simp only; rw [av,if_neg (by simpa using h),if_pos (by simpa using aa)]
theorem J3 (ad:N[n]?=some x) (av:st[n]?=some y) (h:¬ y=2) (aa:¬ (y=1∨d > 12∨(x.1=false∧x.2=[]))) {R:Bool×List Int} (e3:R=mD (fun st e=>ha N f e.to.toNat (d+1) st) (st.set n 1) x.2):ha N (f+1) n d st=if R.1=true then (true,R.2.set n 2) else (false,R.2):=by
 subst e3
 conv=>lhs; unfold ha
 rw [ad]; simp only; rw [av,if_neg (by simpa using h),if_neg (by simpa using aa)]
end
theorem Q5 {N:List bC} {f n:Nat} {d:Int} {st iz:List Int} {x:bC} {y:Int} (ad:N[n]?=some x) (av:st[n]?=some y) (h:¬ y=2) (aa:¬ (y=1∨d > 12∨(x.1=false∧x.2=[]))) (e3:mD (fun st e=>ha N f e.to.toNat (d+1) st) (st.set n 1) x.2=(false,iz)):ha N (f+1) n d st=(false,iz):=by
 rw [J3 ad av h aa e3.symm]; simp
theorem Q6 {N:List bC} {f n:Nat} {d:Int} {st iz:List Int} {x:bC} {y:Int} (ad:N[n]?=some x) (av:st[n]?=some y) (h:¬ y=2) (aa:¬ (y=1∨d > 12∨(x.1=false∧x.2=[]))) (e3:mD (fun st e=>ha N f e.to.toNat (d+1) st) (st.set n 1) x.2=(true,iz)):ha N (f+1) n d st=(true,iz.set n 2):=by
 rw [J3 ad av h aa e3.symm]; simp
theorem Q7 {g:List Int→bm→Bool×List Int} {m:Nat} (aO:∀ s e,s.length=m→(g s e).2.length=m):∀ (l:List bm) (s:List Int),s.length=m→(mD g s l).2.length=m
 | [],s,h=>h
 | e::l,s,h=>by
  unfold mD
  split
  · exact Q7 aO l _ (aO s e h)
  · exact aO s e h
theorem Gl (N:List bC):∀ (f n:Nat) (d:Int) (st:List Int),(ha N f n d st).2.length=st.length
 | 0,_,_,_=>rfl
 | f+1,n,d,st=>by
  unfold ha
  split
  · rfl
  · split
    · rfl
    · split
      · rfl
      · have:=Q7 (g:=fun st e=>ha N f e.to.toNat (d+1) st) (m:=st.length) (fun s e h=>(Gl N f _ _ s).trans h) (‹bC›.2) (st.set n 1) (by simp)
        split
        · simp only [List.length_set]; exact this
        · exact this
def qX (N:List bC):Bool:=(decide (N.length=1) && decide ((N[0]?.map (·.2.length))=some 0)) || (ha N 14 0 0 (List.replicate N.length 0)).1
theorem J4 {N:List bC} {x:bC} (h:N.length=1) (ad:N[0]?=some x) (aa:x.2.length=0):qX N=true:=by
 unfold qX; rw [ad]; simp [h,aa]
theorem J5 {N:List bC} {b:Bool} (U:(ha N 14 0 0 (List.replicate N.length 0)).1=b) (h:N.length≠1∨∃ x,N[0]?=some x∧x.2.length≠0):qX N=b:=by
 subst U;unfold qX;rcases h with h|⟨x,ad,aa⟩
 · simp [h]
 · rw [ad]; simp [aa]
theorem xM (r:Int):(eX r).length≤4:=by
 unfold eX Utf8.encode;simp only;repeat' split
 all_goals first|(simp; done)|(simp only [ByteArray.akn,List.toArray_toList]; decide)|rfl|decide|simp
theorem Q8 {cr:Type} {g:cr→bm→cr} {s:cr} {l:List bm} {k:Nat} {e:bm} {R:cr} (h:R=(l.drop k).foldl g s) (ad:l[k]?=some e):R=(l.drop (k+1)).foldl g (g s e):=by
 rw [h,zn ad]; rfl
theorem Q9 {cr:Type} {g:cr→bm→cr} {s:cr} {l:List bm} {k:Nat} {R:cr} (h:R=(l.drop k).foldl g s) (hk:l.length≤k):R=s:=by
 rw [h,List.drop_of_length_le hk]; rfl
def l_ (N:List bC):Nat→Nat→ag→Int→List ag×Bool→List ag×Bool
 | 0,_,_,_,s=>(s.1,false)
 | f+1,n,a,d,s=>if s.2=false∨s.1.length > 60∨d > 12 then (s.1,false) else match N[n]? with
  | none=>(s.1,false)
  | some x=>x.2.foldl (fun s e=>l_ N f e.to.toNat (a++eX e.rune) (d+1) s) (if x.1=true then (s.1++[a],s.2) else s)
section
variable {N:List bC} {f n:Nat} {d:Int} {a:ag} {l:List ag} {ok:Bool} {x:bC}
theorem J6 (h:ok=false∨l.length > 60∨d > 12):l_ N (f+1) n a d (l,ok)=(l,false):=by
 unfold l_; rw [if_pos h]
theorem J7 (h:¬ (ok=false∨l.length > 60∨d > 12)) (ad:N[n]?=some x) {R eo:List ag×Bool} (a8:eo=if x.1=true then (l++[a],ok) else (l,ok)) (e3:x.2.foldl (fun s e=>l_ N f e.to.toNat (a++eX e.rune) (d+1) s) eo=R):l_ N (f+1) n a d (l,ok)=R:=by
 conv=>lhs; unfold l_
 rw [if_neg h,ad]; simp only;rw [←e3,a8]
end
theorem Q_ {g:List ag×Bool→bm→List ag×Bool} (aO:∀ s e,s.1.length≤61→(g s e).1.length≤61):∀ (l:List bm) (s:List ag×Bool),s.1.length≤61→(l.foldl g s).1.length≤61
 | [],s,h=>h
 | e::l,s,h=>Q_ aO l _ (aO s e h)
theorem C6 (N:List bC):∀ (f n:Nat) (a:ag) (d:Int) (s:List ag×Bool),s.1.length≤61→(l_ N f n a d s).1.length≤61
 | 0,_,_,_,s,h=>h
 | f+1,n,a,d,s,h=>by
  unfold l_
  split
  · exact h
  · next aI =>
    split
    · exact h
    · refine Q_ (fun s e h=>C6 N f _ _ _ s h) _ _ ?_
      have:¬ s.1.length > 60:=fun h=>aI (.inr (.inl h))
      split
      · simp only [List.length_append,List.length_cons,List.length_nil]; omega
      · exact h
def iW (N:List bC):List ag×Bool:=
 let r:=l_ N 14 0 [] 0 ([],true)
 (r.1,r.2 && decide (r.1.length≤60))
theorem Q' {N:List bC} {l:List ag} {ok v:Bool} (h:(l,ok)=l_ N 14 0 [] 0 ([],true)) (bG:v=(ok && decide (l.length≤60))):iW N=(l,v):=by
 unfold iW; simp only [←h,bG]
theorem Ra {g:List ag×Bool→bm→List ag×Bool} (aO:∀ s e,(∀ t∈s.1,t.length≤1000)→∀ t∈(g s e).1,t.length≤1000):∀ (l:List bm) (s:List ag×Bool),(∀ t∈s.1,t.length≤1000)→∀ t∈(l.foldl g s).1,t.length≤1000
 | [],s,h=>h
 | e::l,s,h=>Ra aO l _ (aO s e h)
theorem Rb (N:List bC):∀ (f n:Nat) (a:ag) (d:Int) (s:List ag×Bool),(a.length:Int)≤4*d→(∀ t∈s.1,t.length≤1000)→∀ t∈(l_ N f n a d s).1,t.length≤1000
 | 0,_,_,_,s,_,h=>h
 | f+1,n,a,d,s,ao,h=>by
  unfold l_
  split
  · exact h
  · next aI =>
    split
    · exact h
    · refine Ra (fun s e h=>Rb N f _ _ _ s (by have:=xM e.rune; simp only [List.length_append]; omega) h) _ _ ?_
      have:¬ d > 12:=fun h=>aI (.inr (.inr h))
      split
      · intro t aQ
        rcases List.mem_append.1 aQ with aQ|aQ
        · exact h t aQ
        · simp only [List.mem_singleton] at aQ; subst aQ; omega
      · exact h
theorem aam (N:List bC):∀ t∈(iW N).1,t.length≤1000:=Rb N 14 0 [] 0 ([],true) (by simp) (fun t aQ=>by cases aQ)
theorem aan (N:List bC):uW (iW N).1:=fun t aQ=>by have:=aam N t aQ; omega
theorem aao (N:List bC):(iW N).1.length≤61:=C6 N 14 0 [] 0 ([],true) (by simp)
def wo (N:List bC):Bool:=N.all fun x=>x.2.all fun e=>decide (1≤e.to∧e.to < (N.length:Int))
def Bc (N:List bC):Option (List ag):=
 if wo N=true∧N.length≠0∧N.length≤721∧qX N=true∧(iW N).2=true∧eD (iW N).1=0∧gI (iW N).1=N then some (iW N).1 else none
def kd (N:List bC):List bC:=match Bc N with
 | none=>[]
 | some l=>gI l
theorem wq {N:List bC} (h:¬ (wo N=true∧N.length≠0∧N.length≤721∧qX N=true∧(iW N).2=true∧eD (iW N).1=0∧gI (iW N).1=N)):kd N=[]:=by
 unfold kd Bc; rw [if_neg h]
theorem Rc {N:List bC} (h:wo N=true∧N.length≠0∧N.length≤721∧qX N=true∧(iW N).2=true∧eD (iW N).1=0∧gI (iW N).1=N):kd N=gI (iW N).1:=by
 unfold kd Bc; rw [if_pos h]
theorem Gm {N:List bC}:wo N=true↔∀ x∈N,∀ e∈x.2,1≤e.to∧e.to < (N.length:Int):=by
 unfold wo; simp
theorem xN {N:List bC} {k i:Nat} {x:bC} {e:bm} (ad:N[k]?=some x) (he:x.2[i]?=some e) (h:¬ (1≤e.to∧e.to < (N.length:Int))):¬ wo N=true:=fun aB=>h (Gm.1 aB x (List.mem_of_getElem? ad) e (List.mem_of_getElem? he))
theorem Gn {N M:List bC} (h:N.length≠M.length):decide (N=M)=false:=decide_eq_false fun e=>h (by rw [e])
theorem C7 {N M:List bC} {k:Nat} {a b:bC} (ao:N[k]?=some a) (U:M[k]?=some b) (h:a≠b):decide (N=M)=false:=decide_eq_false fun e=>h (by subst e; exact Option.some.inj (ao.symm.trans U))
theorem Gp {N M:List bC} {k i:Nat} {a b:bC} {x y:bm} (ao:N[k]?=some a) (U:M[k]?=some b) (ad:a.2[i]?=some x) (av:b.2[i]?=some y) (h:x≠y):decide (N=M)=false:=C7 ao U fun e=>h (by subst e; exact Option.some.inj (ad.symm.trans av))
theorem Re {α:Type} {N M:List α} {k:Nat} {a:α} (h:N.take k=M.take k) (ao:N[k]?=some a) (U:M[k]?=some a):N.take (k+1)=M.take (k+1):=by
 rw [List.take_add_one,List.take_add_one,h,ao,U]
theorem Rf {α:Type} {N M:List α} {k:Nat} (h:N.take k=M.take k) (h1:N.length≤k) (aa:M.length≤k):N=M:=by
 rwa [List.take_of_length_le h1,List.take_of_length_le aa] at h
theorem aap {a b:bC} (h1:a.1=b.1) (aa:a.2=b.2):a=b:=Prod.ext h1 aa
end Go.ab
namespace Go.aA
open Go Go.ab
theorem J8 {w:World} {dF g:Nat} {e aaq:TypeId} {v:Value} {aT:List cc} {N:List bC} {G:Nat→Prop} (U:ez w dF [v] e) (ao:Acc eR aaq 2 w g v aT) (aO:g≤w.heap.size) (aB:iC w G aT N) (cC:∀ b,G b→b < w.heap.size) :
 Row w dF 0 [v]∧dF < w.heap.size∧ak eR w (fun b=>b < w.heap.size) v aT∧iC w (fun b=>b < w.heap.size) aT N:=
 ⟨U.row,U.lt,ao.bl.mono fun b h=>Nat.lt_of_lt_of_le h.2 aO,aB.mono cC⟩
theorem aar {w:World} {cn al:Nat} {v:Value} {N:List bC} (h:gp 0 w cn al v N) (gw:N≠[]) (fC:al≤w.heap.size) :
 ∃ b fJ aT,v=ptr b 0∧Row w b 0 [fJ]∧b < w.heap.size∧ak eR w (fun b=>b < w.heap.size) fJ aT∧iC w (fun b=>b < w.heap.size) aT N:=by
 rcases h with ⟨_,h⟩|⟨b,fJ,aT,h1,aa,aq,a6,bT⟩
 · exact absurd h gw
 · exact ⟨b,fJ,aT,h1,aq.2.2,Nat.lt_of_lt_of_le aq.2.1 fC,a6.mono fun b q=>Nat.lt_of_lt_of_le q.2 fC,bT.mono fun b q=>Nat.lt_of_lt_of_le q.2 fC⟩
theorem ar.Rg {R:Nat→Prop} {w0 w:World} {L:List (dc R)} {i:Nat} {v:Value} {N:List bC} (h:ar R (fun _=>False) w0 w L) (al:L[i]?=some (vf v N)) (gw:N≠[]):∃ cn up,gp 0 w cn up v N∧w0.heap.size≤cn∧up≤w.heap.size:=by
 obtain ⟨F,⟨cn,up,h1,aa,a6⟩,aq,_⟩:=h.act al;refine ⟨cn,up,h1,?_,aa⟩;rcases h1 with ⟨_,h1⟩|⟨b,fJ,aT,bw,cB,⟨d_,hS,ih⟩,nV,mO⟩
 · exact absurd h1 gw
 · exact (aq cn (a6 cn (Nat.le_refl _) (by omega))).1.1.resolve_left id
end Go.aA
namespace Go.aA
open Go Go.ab
def Rh {R:Nat→Prop} (aas J9 ja aat qa J_:Nat) (kK eu ht gS dF:Nat) (s:List ag×Bool):dc R:=bA [az kK [.bool s.2] aas,oY J9 qa 1 cp eu s.1,az ht [ptr dF 0] ja,az gS [.func (.func J_) #[] #[ptr kK 0,ptr eu 0,ptr ht 0,ptr gS 0]] aat]
def Ri {R:Nat→Prop} (t1 t3 qY t4 J_:Nat) (aG bn bj dF:Nat) (nx:Value) (st:List Int):dc R:=bA [az aG [ptr dF 0] t1,az bn [nx] t3,bb aA.encI qY 1 nx st,az bj [.func (.func J_) #[] #[ptr aG 0,ptr bn 0,ptr bj 0]] t4]
end Go.aA
namespace Go.aA
open Go
theorem zx {P:Program} {f:FuncId} {r:List Value} {w:World} {K:Ending→World→Prop} {n:Nat} {m:Int} (h:Calls P f (.int .i64 (n:Int)::r).toArray w K) (aI:m=(n:Int)):Calls P f (.int .i64 m::r).toArray w K:=by subst aI; exact h
end Go.aA
namespace Go.ab
open Go.aA
def qe (b:List UInt8) (n:Nat) (eo:Int×Bool) (i:Nat) (N:List bC) (s:Int×Bool):Prop:=jS b n eo=(N++(jS b (n-i) s).1,(jS b (n-i) s).2)
theorem qe.start (b:List UInt8) (n:Nat) (s:Int×Bool):qe b n s 0 [] s:=by unfold qe; simp
theorem qe.step {b:List UInt8} {n i:Nat} {eo:Int×Bool} {a:Int} {N:List bC} {e:bC} {iz:Int×Bool} (h:qe b n eo i N (a,false)) (al:i < n) (he:(e,iz)=kJ b (a,false)):qe b n eo (i+1) (N++[e]) iz:=by
 unfold qe at *;rw [h];obtain ⟨m,hm⟩:∃ m,n-i=m+1:=⟨n-i-1,by omega⟩;rw [hm,show n-(i+1)=m from by omega]
 conv=>lhs; unfold jS
 rw [if_neg (by simp),←he];simp
theorem qe.bad {b:List UInt8} {n i:Nat} {eo:Int×Bool} {a:Int} {N:List bC} (h:qe b n eo i N (a,true)):jS b n eo=(N,(a,true)):=by
 unfold qe at h;rw [h]
 cases n-i with
 | zero=>simp [jS]
 | succ m=>unfold jS; simp
theorem qe.fin {b:List UInt8} {n i:Nat} {eo:Int×Bool} {N:List bC} {s:Int×Bool} (h:qe b n eo i N s) (al:n≤i):jS b n eo=(N,s):=by
 unfold qe at h;rw [show n-i=0 from by omega] at h;rw [h]; simp [jS]
theorem Rj (b:List UInt8):∀ (n:Nat) (s:Int×Bool),(i' b n s).1.length≤n
 | 0,s=>by simp [i']
 | n+1,s=>by
  unfold i'
  split
  · simp
  · simp only [List.length_cons]; have:=Rj b n (qd b s).2; omega
theorem aau (b:List UInt8) (s:Int×Bool):(kJ b s).1.2.length≤65535:=by
 unfold kJ;simp only;generalize b':dn b 2 ((dn b 1 s).2.1,(dn b 1 s).2.2 || decide ((dn b 1 s).1 > 1))=z;obtain ⟨aav,z2,z3⟩:=z;have aa:=r1 b' (by omega);have h1:=Rj b aav.toNat (z2,z3);simp only;omega
theorem Gq {b:List UInt8} {size:Nat} {s:Int×Bool} (aF:size≤4) (ao:0≤s.1∧s.1≤b.length):0≤(dn b size s).2.1∧(dn b size s).2.1≤b.length:=by
 have:=pz (a:=s.1) (q:=s.2) aF ao (f:=(dn b size s).1) (a2:=(dn b size s).2.1) (q2:=(dn b size s).2.2) rfl;omega
theorem aaw {b:List UInt8} {s:Int×Bool} (ao:0≤s.1∧s.1≤b.length):0≤(qd b s).2.1∧(qd b s).2.1≤b.length:=by
 unfold qd;exact Gq (by omega) (Gq (by omega) ao)
theorem Rk {b:List UInt8}:∀ (n:Nat) (s:Int×Bool),0≤s.1∧s.1≤b.length→0≤(i' b n s).2.1∧(i' b n s).2.1≤b.length
 | 0,s,ao=>ao
 | n+1,s,ao=>by
  unfold i'
  split
  · exact ao
  · exact Rk n _ (aaw ao)
theorem aax {b:List UInt8} {a a2:Int} {q q2:Bool} {x:bC} (ao:0≤a∧a≤b.length) (h:(x,(a2,q2))=kJ b (a,q)):0≤a2∧a2≤b.length:=by
 have:(kJ b (a,q)).2.1=a2:=by rw [←h]
 rw [←this];unfold kJ;exact Rk _ _ (Gq (s:=(_,_)) (by omega) (Gq (s:=(_,_)) (by omega) ao))
def hj (b:List UInt8):List bC×Int:=
 if b.length < 4 then ([],9) else
 if ¬ iP b ((b.length:Int)-4) 4=(jj (b.take (b.length-4)):Int) then ([],9) else
 if b.length-4 < 4∨¬ b.take 4=[73,78,75,49] then ([],8) else
 if (jS (b.take (b.length-4)) (dn (b.take (b.length-4)) 2 (4,false)).1.toNat (dn (b.take (b.length-4)) 2 (4,false)).2).2.2=true∨¬ (jS (b.take (b.length-4)) (dn (b.take (b.length-4)) 2 (4,false)).1.toNat (dn (b.take (b.length-4)) 2 (4,false)).2).2.1=(b.length:Int)-4 then ([],8) else
 if kd (jS (b.take (b.length-4)) (dn (b.take (b.length-4)) 2 (4,false)).1.toNat (dn (b.take (b.length-4)) 2 (4,false)).2).1=[] then ([],8) else
 (kd (jS (b.take (b.length-4)) (dn (b.take (b.length-4)) 2 (4,false)).1.toNat (dn (b.take (b.length-4)) 2 (4,false)).2).1,0)
section
variable {b:List UInt8}
theorem Gr (h:b.length < 4):hj b=([],9):=by unfold hj; rw [if_pos h]
theorem Bd (h1:¬ b.length < 4) (aa:¬ iP b ((b.length:Int)-4) 4=(jj (b.take (b.length-4)):Int)):hj b=([],9):=by unfold hj; rw [if_neg h1,if_pos aa]
theorem Ka (h1:¬ b.length < 4) (aa:iP b ((b.length:Int)-4) 4=(jj (b.take (b.length-4)):Int)) (aq:b.length-4 < 4∨¬ b.take 4=[73,78,75,49]):hj b=([],8):=by unfold hj; rw [if_neg h1,if_neg (fun k=>k aa),if_pos aq]
variable {N:List bC} {a c a0:Int} {q q0:Bool}
theorem Gs (h1:¬ b.length < 4) (aa:iP b ((b.length:Int)-4) 4=(jj (b.take (b.length-4)):Int)) (aq:¬ (b.length-4 < 4∨¬ b.take 4=[73,78,75,49])) (a6:(c,(a0,q0))=dn (b.take (b.length-4)) 2 (4,false)) (bT:jS (b.take (b.length-4)) c.toNat (a0,q0)=(N,(a,q))) (ed:q=true∨¬ a=(b.length:Int)-4):hj b=([],8):=by
 unfold hj; rw [if_neg h1,if_neg (fun k=>k aa),if_neg aq,←a6]; simp only [bT]; rw [if_pos ed]
theorem Rl (h1:¬ b.length < 4) (aa:iP b ((b.length:Int)-4) 4=(jj (b.take (b.length-4)):Int)) (aq:¬ (b.length-4 < 4∨¬ b.take 4=[73,78,75,49])) (a6:(c,(a0,q0))=dn (b.take (b.length-4)) 2 (4,false)) (bT:jS (b.take (b.length-4)) c.toNat (a0,q0)=(N,(a,q))) (ed:¬ (q=true∨¬ a=(b.length:Int)-4)) (jH:kd N=[]):hj b=([],8):=by
 unfold hj; rw [if_neg h1,if_neg (fun k=>k aa),if_neg aq,←a6]; simp only [bT]; rw [if_neg ed,if_pos jH]
theorem Kb (h1:¬ b.length < 4) (aa:iP b ((b.length:Int)-4) 4=(jj (b.take (b.length-4)):Int)) (aq:¬ (b.length-4 < 4∨¬ b.take 4=[73,78,75,49])) (a6:(c,(a0,q0))=dn (b.take (b.length-4)) 2 (4,false)) (bT:jS (b.take (b.length-4)) c.toNat (a0,q0)=(N,(a,q))) (ed:¬ (q=true∨¬ a=(b.length:Int)-4)) (jH:kd N≠[]):hj b=(kd N,0):=by
 unfold hj; rw [if_neg h1,if_neg (fun k=>k aa),if_neg aq,←a6]; simp only [bT]; rw [if_neg ed,if_neg jH]
end
end Go.ab
namespace Go.aA
open Go Go.ab
def zy {R:Nat→Prop} (aT:List cc) (N:List bC):dc R:=⟨fun F w=>iC w F aT N,fun h hm bO _=>h.keep hm bO⟩
theorem aay {R F:Nat→Prop} {w:World} {e:TypeId} {aT:List cc} {N:List bC} {x:cc} {n:bC} {v:Value} {es:List bm} (bG:v=x.e.val) (bd:x.fin=n.1) (aI:es=n.2) (h:(bA (R:=R) [zy aT N,bb eg e 2 v es]).p F w):(zy (R:=R) (aT++[x]) (N++[n])).p F w:=by
 obtain ⟨gb,cO,h1,aa,aq,a6⟩:=wj h;exact cx.app (iC.mono h1 aq) (.cons ⟨bd,bG▸aI▸(vd aa).mono a6⟩ .nil)
end Go.aA
namespace Go.ab
open Go.aA
theorem wrap_small {x:Int} (a8:0≤x) (h:x < 4294967296):IntKind.u64.wrap x=x:=by
 have:(IntKind.u64.wrap x)=x % 18446744073709551616:=by unfold IntKind.wrap; rfl
 rw [this]; omega
theorem Rm {x:Int} (a8:0≤x) (h:x < 256):eJ x 1=[fK x]:=by
 unfold eJ;rw [wrap_small a8 (by omega)];simp [List.range_succ]
theorem Rn {x:Int} (a8:0≤x) (h:x < 65536):eJ x 2=[fK (x / 256),fK x]:=by
 unfold eJ;rw [wrap_small a8 (by omega)];simp [List.range_succ]
theorem Ro {x:Int} (a8:0≤x) (h:x < 4294967296):eJ x 4=[fK (x / 16777216),fK (x / 65536),fK (x / 256),fK x]:=by
 unfold eJ;rw [wrap_small a8 (by omega)];simp [List.range_succ]
theorem aaz {x:Int} (a8:0≤x) (h:x < 256):(jI (eJ x 1):Int)=x:=by
 rw [Rm a8 h];have h1:=tH x;simp only [jI,List.foldl_cons,List.foldl_nil]; omega
theorem aaA {x:Int} (a8:0≤x) (h:x < 65536):(jI (eJ x 2):Int)=x:=by
 rw [Rn a8 h];have h1:=tH x;have aa:=tH (x / 256);simp only [jI,List.foldl_cons,List.foldl_nil]; omega
theorem aaB {x:Int} (a8:0≤x) (h:x < 4294967296):(jI (eJ x 4):Int)=x:=by
 rw [Ro a8 h];have h1:=tH x;have aa:=tH (x / 256);have aq:=tH (x / 65536);have a6:=tH (x / 16777216);simp only [jI,List.foldl_cons,List.foldl_nil]; omega
theorem zz {n:Int} {b:UInt8} (h:n % 256=(b.toNat:Int)):fK n=b:=by
 apply UInt8.toNat_inj.1;have:=tH n; omega
theorem aaC {l:List UInt8} (h:l.length=1):eJ (jI l) 1=l:=by
 match l,h with
 | [a],_ =>
  have ao:=a.toNat_lt
  have aI:(jI [a]:Int)=a.toNat:=by simp only [jI,List.foldl_cons,List.foldl_nil]; omega
  rw [Rm (by omega) (by omega),aI,zz (b:=a) (by omega)]
theorem aaD {l:List UInt8} (h:l.length=2):eJ (jI l) 2=l:=by
 match l,h with
 | [a,b],_ =>
  have ao:=a.toNat_lt
  have U:=b.toNat_lt
  have aI:(jI [a,b]:Int)=a.toNat*256+b.toNat:=by simp only [jI,List.foldl_cons,List.foldl_nil]; omega
  rw [Rn (by omega) (by omega),aI,zz (b:=a) (by omega),zz (b:=b) (by omega)]
theorem aaE {l:List UInt8} (h:l.length=4):eJ (jI l) 4=l:=by
 match l,h with
 | [a,b,c,d],_ =>
  have ao:=a.toNat_lt
  have U:=b.toNat_lt
  have an:=c.toNat_lt
  have hd:=d.toNat_lt
  have aI:(jI [a,b,c,d]:Int)=((a.toNat*256+b.toNat)*256+c.toNat)*256+d.toNat:=by simp only [jI,List.foldl_cons,List.foldl_nil]; omega
  rw [Ro (by omega) (by omega),aI,zz (b:=a) (by omega),zz (b:=b) (by omega),zz (b:=c) (by omega),zz (b:=d) (by omega)]
def wu (n:Nat):Prop:=n=1∨n=2∨n=4
theorem Rp {x:Int} {n:Nat} (aI:wu n) (a8:0≤x) (h:x < 256 ^ n):(jI (eJ x n):Int)=x:=by
 rcases aI with rfl|rfl|rfl
 · exact aaz a8 (by omega)
 · exact aaA a8 (by omega)
 · exact aaB a8 (by omega)
theorem Kc {l:List UInt8} {n:Nat} (aI:wu n) (h:l.length=n):eJ (jI l) n=l:=by
 rcases aI with rfl|rfl|rfl
 · exact aaC h
 · exact aaD h
 · exact aaE h
theorem sH {b p r:List UInt8} {a:Nat} (h:b.drop a=p++r):b.drop (a+p.length)=r:=by
 rw [←List.drop_drop,h]; simp
theorem aaF {b p r:List UInt8} {a:Nat} (h:b.drop a=p++r) (hp:p≠[]):a+p.length≤b.length:=by
 have h1:=congrArg List.length h;rw [List.length_drop,List.length_append] at h1;have:0 < p.length:=List.length_pos_iff.2 hp
 omega
theorem tM {b r:List UInt8} {a n:Nat} {x:Int} {q:Bool} (h:b.drop a=eJ x n++r) (aI:wu n) (a8:0≤x) (ad:x < 256 ^ n):dn b n ((a:Int),q)=(x,(((a+n:Nat):Int),q)):=by
 have a':=eM x n
 have h1:a+n≤b.length:=by
  have:=aaF h (by intro e; rw [e] at a'; unfold wu at aI; simp at a'; omega)
  rwa [a'] at this
 have c7:ln b (a:Int) (n:Int)=true:=(by unfold ln; unfold wu at aI; exact decide_eq_true ⟨by omega,by omega,by omega,by omega,by omega⟩);rw [tL c7]
 have bG:iP b (a:Int) (n:Int)=x:=by
  unfold iP
  rw [if_pos c7]
  simp only [Int.toNat_natCast]
  rw [h,List.take_left' a']
  exact Rp aI a8 ad
 rw [bG]; rfl
def xO (e:bm):Prop:=0≤e.rune∧e.rune≤1114111∧0≤e.to∧e.to < 65536
theorem wrap32 {x:Int} (a8:0≤x) (h:x≤1114111):IntKind.i32.wrap x=x:=by
 have hm:x % 4294967296=x:=(by omega);have U:(2:Int) ^ IntKind.i32.bits=4294967296:=rfl;have aF:(2:Int) ^ (IntKind.i32.bits-1)=2147483648:=rfl;unfold IntKind.wrap;simp only [U,aF,hm];rw [if_neg];simp only [Bool.and_eq_true,decide_eq_true_eq];omega
theorem Kd (e:bm):(kI e).length=6:=by unfold kI; simp [eM]
theorem aaG {b r:List UInt8} {a:Nat} {e:bm} (h:b.drop a=kI e++r) (he:xO e):qd b ((a:Int),false)=(e,(((a+6:Nat):Int),false)):=by
 obtain ⟨h1,aa,aq,a6⟩:=he;unfold kI at h;rw [List.append_assoc] at h;have bw:=tM (q:=false) h (.inr (.inr rfl)) h1 (by omega);have cB:=sH h;rw [eM] at cB;have d_:=tM (q:=false) cB (.inr (.inl rfl)) aq (by omega);unfold qd;simp only [bw];rw [show (false || decide (e.rune > 1114111))=false from by simp; omega];simp only [d_];rw [wrap32 h1 aa]
theorem Rq {b:List UInt8}:∀ (es:List bm) (a:Nat) (r:List UInt8),b.drop a=es.flatMap kI++r→(∀ e∈es,xO e)→i' b es.length ((a:Int),false)=(es,(((a+6*es.length:Nat):Int),false))
 | [],a,r,h,_=>by simp [i']
 | e::es,a,r,h,he=>by
  rw [List.flatMap_cons,List.append_assoc] at h
  have bw:=aaG h (he e (by simp))
  have cB:=sH h
  rw [Kd] at cB
  have d_:=Rq es (a+6) r cB (fun e h=>he e (by simp [h]))
  rw [List.length_cons]
  conv=>lhs; unfold i'
  rw [if_neg (by simp),bw]
  simp only [d_]
  rw [show a+6+6*es.length=a+6*(es.length+1) from by omega]
def wv (x:bC):Prop:=x.2.length < 65536∧∀ e∈x.2,xO e
def sI (x:bC):Nat:=3+6*x.2.length
theorem Rr:∀ es:List bm,(es.flatMap kI).length=6*es.length
 | []=>rfl
 | e::es=>by rw [List.flatMap_cons,List.length_append,Rr es,Kd,List.length_cons]; omega
theorem Ke (x:bC):(jk x).length=sI x:=by unfold jk sI; simp only [List.length_append,eM,Rr]
theorem aaH {b r:List UInt8} {a:Nat} {x:bC} (h:b.drop a=jk x++r) (ad:wv x):kJ b ((a:Int),false)=(x,(((a+sI x:Nat):Int),false)):=by
 obtain ⟨h1,aa⟩:=ad;unfold jk at h;rw [List.append_assoc,List.append_assoc] at h;have U:(0:Int)≤(if x.1=true then 1 else 0)∧(if x.1=true then 1 else 0:Int)≤1:=(by split<;>omega);have bw:=tM (q:=false) h (.inl rfl) U.1 (by omega);have cB:=sH h;rw [eM] at cB;have d_:=tM (q:=false) cB (.inr (.inl rfl)) (by omega) (by omega);have hS:=sH cB;rw [eM] at hS;have ih:=Rq x.2 _ _ hS aa;unfold kJ;simp only [bw];rw [show (false || decide ((if x.1=true then 1 else 0:Int) > 1))=false from by rw [Bool.false_or]; exact decide_eq_false (by omega)];simp only [d_,Int.toNat_natCast,ih];rw [show a+1+2+6*x.2.length=a+sI x from by unfold sI; omega];have:decide ((if x.1=true then 1 else 0:Int)=1)=x.1:=by cases x.1<;>decide
 rw [this]
def qZ (N:List bC):Nat:=(N.map sI).sum
theorem Rs {b:List UInt8}:∀ (N:List bC) (a:Nat) (r:List UInt8),b.drop a=N.flatMap jk++r→(∀ x∈N,wv x)→jS b N.length ((a:Int),false)=(N,(((a+qZ N:Nat):Int),false))
 | [],a,r,h,_=>by simp [jS,qZ]
 | x::N,a,r,h,ad=>by
  rw [List.flatMap_cons,List.append_assoc] at h
  have bw:=aaH h (ad x (by simp))
  have cB:=sH h
  rw [Ke] at cB
  have d_:=Rs N (a+sI x) r cB (fun e h=>ad e (by simp [h]))
  rw [List.length_cons]
  conv=>lhs; unfold jS
  rw [if_neg (by simp),bw]
  simp only [d_]
  rw [show a+sI x+qZ N=a+qZ (x::N) from by unfold qZ; simp only [List.map_cons,List.sum_cons]; omega]
theorem Rt:∀ N:List bC,(N.flatMap jk).length=qZ N
 | []=>rfl
 | x::N=>by rw [List.flatMap_cons,List.length_append,Rt N,Ke]; unfold qZ; simp only [List.map_cons,List.sum_cons]
theorem aaI (N:List bC):(gq N).length=6+qZ N:=by
 unfold gq; simp only [List.length_append,eM,Rt,List.length_cons,List.length_nil]
theorem aaJ {N:List bC} (a':N.length < 65536) (gw:∀ x∈N,wv x) (hm:kd N≠[]):hj (jJ N)=(kd N,0):=by
 have U:(jJ N).length=(gq N).length+4:=(by unfold jJ wi; rw [List.length_append,eM]);have jT:=aaI N;have aQ:(jJ N).take ((jJ N).length-4)=gq N:=(by rw [U]; unfold jJ wi; simp);have Kf:(4:Int)=((4:Nat):Int):=rfl;have aF:=zt 0 (gq N)
 have aa:iP (jJ N) (((jJ N).length:Int)-4) 4=(jj ((jJ N).take ((jJ N).length-4)):Int):=by
  rw [aQ]
  have hd:(jJ N).drop (gq N).length=eJ (jj (gq N)) 4++[]:=by unfold jJ wi; simp
  have:=tM (q:=false) hd (.inr (.inr rfl)) (by omega) (by change (zr 0 (gq N):Int) < _; omega)
  rw [show ((jJ N).length:Int)-4=((gq N).length:Int) from by omega]
  have c7:ln (jJ N) ((gq N).length:Int) 4=true:=by unfold ln; exact decide_eq_true ⟨by omega,by omega,by omega,by omega,by omega⟩
  rw [show (4:Nat)=4 from rfl,tL c7] at this
  exact congrArg Prod.fst this
 have aq:¬ ((jJ N).length-4 < 4∨¬ (jJ N).take 4=[73,78,75,49]):=by
  intro h
  rcases h with h|h
  · omega
  · exact h (by unfold jJ wi gq; simp)
 have C8:(gq N).drop 4=eJ N.length 2++N.flatMap jk:=(by unfold gq; simp);have a6:=tM (q:=false) C8 (.inr (.inl rfl)) (by omega) (by omega);have C9:=sH C8;rw [eM] at C9;have bT:=Rs N 6 [] (by rw [C9]; simp) gw;have fw:dn ((jJ N).take ((jJ N).length-4)) 2 (4,false)=((N.length:Int),(((6:Nat):Int),false)):=(by rw [aQ]; exact a6);refine Kb (c:=N.length) (a0:=((6:Nat):Int)) (q0:=false) (a:=((6+qZ N:Nat):Int)) (q:=false) (by omega) aa aq fw.symm (by rw [aQ,Int.toNat_natCast]; exact bT) (fun h=>?_) hm;rcases h with h|h
 · cases h
 · exact h (by omega)
end Go.ab
namespace Go.ab
open Go.aA
def k2:List ag→Nat
 | []=>0
 | t::r=>max (gj t).length (k2 r)
theorem Ru:∀ {l:List ag} {t:ag},t∈l→(gj t).length≤k2 l
 | a::r,t,h=>by
  unfold k2
  rcases List.mem_cons.1 h with rfl|h
  · omega
  · have:=Ru h; omega
theorem Kg:∀ {l:List ag},l≠[]→∃ t∈l,(gj t).length=k2 l
 | [a],_=>⟨a,by simp,by unfold k2 k2; omega⟩
 | a::b::r,_=>by
  obtain ⟨t,h1,aa⟩:=Kg (l:=b::r) (by simp)
  have e:k2 (a::b::r)=max (gj a).length (k2 (b::r)):=by rw [k2]
  rcases Nat.le_total (gj a).length (k2 (b::r)) with h|h
  · exact ⟨t,by simp [List.mem_cons.1 h1],by rw [aa,e]; omega⟩
  · exact ⟨a,by simp,by rw [e]; omega⟩
theorem Rv {l:List ag} {n:Nat} (h:Deep n l):k2 l≤n:=by
 by_cases a':l=[]
 · subst a'; exact Nat.zero_le _
 · obtain ⟨t,h1,aa⟩:=Kg a';rw [←aa]; exact h t h1
theorem Be {r:List ag} (aB:fD r) {g:Nat×List ag} (aO:g∈ga (eZ r)):jt g.1∧g.2≠[]∧fD g.2∧∀ t∈g.2,du g.1++t∈r:=by
 have hd:=tC aB;have ok:=wa _ _ (Nat.le_refl _) hd.1 hd.2;have h1:=ok.eQ g aO;refine ⟨h1.1,h1.2.1,h1.2.2,fun t aQ=>zc ?_⟩;rw [←ok.all];exact List.mem_flatMap.2 ⟨g,aO,List.mem_map.2 ⟨t,aQ,rfl⟩⟩
theorem C_ {r:List ag} (aB:fD r) {g:Nat×List ag} (aO:g∈ga (eZ r)):k2 g.2+1≤k2 r:=by
 obtain ⟨h1,aa,_,a6⟩:=Be aB aO;obtain ⟨t,bw,cB⟩:=Kg aa;have:=Ru (a6 t bw);rw [u2 h1] at this;simp only [List.length_cons] at this;omega
theorem Rw {P:List ag→Prop} {add:ch→List ag→ch×Nat}:∀ (gs:List (Nat×List ag)) (s:ch),(∀ g∈gs,∀ s,(∀ y∈s,P y.1)→∀ y∈(add s g.2).1,P y.1)→(∀ y∈s,P y.1)→∀ y∈(kt add s gs).1,P y.1
 | [],s,_,aF=>aF
 | g::gs,s,h,aF=>by
  show ∀ y∈(kt add (add s g.2).1 gs).1,_
  exact Rw gs _ (fun e' rQ=>h e' (by simp [rQ])) (h g (by simp) s aF)
theorem Rx {P:List ag→Prop} (Ry:∀ r,P r→∀ g∈ga (eZ r),P g.2):∀ (f:Nat) (s:ch) (ay:List ag),(∀ y∈s,P y.1)→P ay→∀ y∈(eh f s ay).1,P y.1
 | 0,s,ay,aF,_=>aF
 | f+1,s,ay,aF,aB=>by
  unfold eh
  cases al:s.findIdx? fun x=>x.1==ay with
  | some i=>exact aF
  | none =>
   have h1:=Rw (add:=eh f) (P:=P) (ga (eZ ay)) (s++[(ay,[])]) (fun g hI iz yV=>Rx Ry f iz g.2 yV (Ry _ aB g hI)) (fun y av=>by
    rcases List.mem_append.1 av with av|av
    · exact aF y av
    · simp only [List.mem_singleton] at av; subst av; exact aB)
   intro y av
   rcases List.mem_or_eq_of_mem_set av with av|rfl
   · exact h1 y av
   · exact aB
theorem aaK {words:List ag} (h:eD words=0):∀ y∈rP words,k2 y.1≤k2 words:=by
 have aO:=rS h;have:=Rx (P:=fun r=>fD r∧k2 r≤k2 words) (fun r aB g hI=>⟨(Be aB.1 hI).2.2.1,by have:=C_ aB.1 hI; omega⟩) 13 [] words (by simp) ⟨aO.1,Nat.le_refl _⟩;exact fun y av=>(this y av).2
def o2 (l:List ag):Nat:=(l.map fun t=>(gj t).length).sum
theorem aaL (a b:List ag):o2 (a++b)=o2 a+o2 b:=by unfold o2; simp
theorem Rz {c:Nat} (an:jt c):∀ l:List ag,o2 (l.map (du c++·))=l.length+o2 l
 | []=>rfl
 | t::l=>by
  have:=Rz an l
  unfold o2 at *
  simp only [List.map_cons,List.sum_cons,List.length_cons] at *
  rw [u2 an,this]
  simp only [List.length_cons]; omega
def Bf (gs:List (Nat×List ag)):Nat:=(gs.map fun g=>o2 g.2+1).sum
theorem RA:∀ (gs:List (Nat×List ag)),(∀ g∈gs,jt g.1∧g.2≠[])→Bf gs≤o2 (gs.flatMap fun g=>g.2.map (du g.1++·))
 | [],_=>by simp [Bf]
 | g::gs,h=>by
  have h1:=RA gs (fun e' aO=>h e' (by simp [aO]))
  have aa:=h g (by simp)
  have aq:=List.length_pos_iff.2 aa.2
  rw [List.flatMap_cons,aaL,Rz aa.1]
  unfold Bf at *
  simp only [List.map_cons,List.sum_cons]; omega
theorem aaM (l:List ag):o2 (eZ l)≤o2 l:=by
 cases l with
 | nil=>exact Nat.le_refl _
 | cons a r=>cases a<;>simp [eZ,o2]
theorem RB {add:ch→List ag→ch×Nat}:∀ (gs:List (Nat×List ag)) (s:ch),(∀ g∈gs,∀ s,(add s g.2).1.length≤s.length+1+o2 g.2)→(kt add s gs).1.length≤s.length+Bf gs
 | [],s,_=>by simp [kt,Bf]
 | g::gs,s,h=>by
  have h1:=h g (by simp) s
  have aa:=RB gs (add s g.2).1 (fun e' rQ=>h e' (by simp [rQ]))
  show (kt add (add s g.2).1 gs).1.length≤_
  unfold Bf at aa ⊢
  simp only [List.map_cons,List.sum_cons]
  omega
theorem RC:∀ (f:Nat) (s:ch) (ay:List ag),fD ay→(eh f s ay).1.length≤s.length+1+o2 ay
 | 0,s,ay,_=>by simp [eh]; omega
 | f+1,s,ay,aO=>by
  unfold eh
  cases al:s.findIdx? fun x=>x.1==ay with
  | some i=>simp; omega
  | none =>
   simp only [List.length_set]
   have hd:=tC aO
   have ok:=wa _ _ (Nat.le_refl _) hd.1 hd.2
   have h1:=RB (add:=eh f) (ga (eZ ay)) (s++[(ay,[])]) (fun g hI iz=>RC f iz g.2 (ok.eQ g hI).2.2)
   have aa:=RA (ga (eZ ay)) (fun g hI=>⟨(ok.eQ g hI).1,(ok.eQ g hI).2.1⟩)
   rw [ok.all] at aa
   have aq:=aaM ay
   simp only [List.length_append,List.length_cons,List.length_nil] at h1
   omega
theorem aaN {l:List ag} {m:Nat} (h:∀ x∈l,(gj x).length≤m):o2 l≤l.length*m:=by
 induction l with
 | nil=>simp [o2]
 | cons a l bq =>
  have h1:=h a (by simp)
  have aa:=bq fun x ad=>h x (by simp [ad])
  unfold o2 at *
  rw [List.map_cons,List.sum_cons,List.length_cons,Nat.add_mul]
  omega
theorem aaO {words:List ag} (h:eD words=0):(gI words).length≤721:=by
 rw [sD h,tF];unfold nv;split
 · simp
 · obtain ⟨h1,aa,_⟩:=y8 h;have aq:=RC 13 [] words (rS h).1;have a6:=aaN (l:=words) (m:=12) fun x ad=>(Jn (aa x ad)).2.2
   unfold rP;simp only [List.length_nil] at aq;omega
theorem Kh {α β:Type} {R:α→β→Prop} {a:List α} {b:List β} (h:cx R a b):∀ y∈b,∃ x∈a,R x y:=by
 intro y av;obtain ⟨k,hk⟩:=List.mem_iff_getElem?.1 av;have aO:=cx.get h;have gE:=(List.getElem?_eq_some_iff.1 hk).1;have ad:a[k]?=some (a[k]'(by rw [aO.1]; exact gE)):=(by simp);exact ⟨_,List.mem_of_getElem? ad,aO.2 k _ _ ad hk⟩
theorem RD {g:List Int→bm→Bool×List Int} {Inv:List Int→Prop}:∀ (l:List bm) (s:List Int),Inv s→(∀ e∈l,∀ s,Inv s→(g s e).1=true∧Inv (g s e).2)→(mD g s l).1=true∧Inv (mD g s l).2
 | [],s,h,_=>⟨rfl,h⟩
 | e::l,s,h,aO=>by
  obtain ⟨h1,aa⟩:=aO e (by simp) s h
  unfold mD
  rw [if_pos h1]
  exact RD l _ aa fun nN he=>aO nN (by simp [he])
section
variable {s:ch}
theorem Gt {n:Nat} {y:List ag×List bm} (h:s[n]?=some y):(fa s)[n]?=some (iB y.1,y.2):=by simp [fa,h]
theorem aaP (kL:∀ y∈s,nq s y∧fD y.1∧y.1≠[]):∀ (f n:Nat) (d:Int) (st:List Int) (y:List ag×List bm),s[n]?=some y→0≤d→d+k2 y.1≤12→13≤d+f→st.length=s.length →
 (∀ (m:Nat) (z:List ag×List bm),st[m]?=some 1→s[m]?=some z→k2 y.1 < k2 z.1) →
 (ha (fa s) (f+1) n d st).1=true∧∀ m:Nat,(ha (fa s) (f+1) n d st).2[m]?=some 1→st[m]?=some 1:=by
 intro f
 induction f with
 | zero=>intro n d st y aI a8 h1 aa _ _; omega
 | succ f bq =>
  intro n d st y aI a8 h1 aa a' hu
  obtain ⟨an,aO,cA⟩:=kL y (List.mem_of_getElem? aI)
  have gE:=(List.getElem?_eq_some_iff.1 aI).1
  obtain ⟨v,bG⟩:∃ v,st[n]?=some v:=⟨_,List.getElem?_eq_getElem (by omega)⟩
  by_cases ju:v=2
  · rw [C5 (Gt aI) bG ju]
    exact ⟨rfl,fun m h=>h⟩
  · have ho:¬ (v=1∨d > 12∨((iB y.1,y.2).1=false∧(iB y.1,y.2).2=[])):=by
     rintro (h|h|⟨aq,a6⟩)
     · subst h
       have:=hu n y bG aI
       omega
     · omega
     · apply cA
       simp only at aq a6
       have ox:ga (eZ y.1)=[]:=List.eq_nil_of_length_eq_zero (by rw [(cx.get an).1,a6]; rfl)
       have:=FR (x:=y) aO
       rw [aq,ox] at this
       simpa using this
    have key:=RD (g:=fun st e=>ha (fa s) (f+1) e.to.toNat (d+1) st) (Inv:=fun Gu=>Gu.length=s.length∧∀ m:Nat,Gu[m]?=some 1→st[m]?=some 1∨m=n) y.2 (st.set n 1) ⟨by rw [List.length_set]; exact a',fun m h=>by
     rw [List.getElem?_set] at h
     split at h
     · right; omega
     · left; exact h⟩ (fun e he Gu ⟨FT,AH⟩=>by
     obtain ⟨g,hI,aq,j,es,a6,bT⟩:=Kh an e he
     have Gv:=C_ aO hI
     have aS:e.to.toNat=j:=by omega
     have:=bq j (d+1) Gu (g.2,es) bT (by omega) (by simp only; omega) (by omega) FT (fun m z hm b'=>by
      rcases AH m hm with h|h
      · have:=hu m z h b'; simp only; omega
      · subst h
        obtain rfl:y=z:=Option.some.inj (aI.symm.trans b')
        simp only; omega)
     simp only [aS]
     refine ⟨this.1,by rw [Gl]; exact FT,fun m hm=>AH m (this.2 m hm)⟩)
    obtain ⟨bw,cB,d_⟩:=key
    rw [J3 (Gt aI) bG ju ho rfl]
    simp only
    rw [if_pos bw]
    refine ⟨rfl,fun m hm=>?_⟩
    simp only at hm
    rw [List.getElem?_set] at hm
    split at hm
    · split at hm
      · simp at hm
      · cases hm
    · rename_i ako
      rcases d_ m hm with h|h
      · exact h
      · omega
theorem aaQ {a:ag} {d:Int} {f:Nat} (Ki:∀ (n:Nat) (a:ag) (l:List ag) (y:List ag×List bm),s[n]?=some y→d+1+k2 y.1≤12→l.length+y.1.length≤60→l_ (fa s) f n a (d+1) (l,true)=(l++y.1.map (a++·),true)) :
 ∀ {gs:List (Nat×List ag)} {es:List bm},cx (fun g e=>e.rune=(g.1:Int)∧∃ (j:Nat) (es:List bm),e.to=(j:Int)∧s[j]?=some (g.2,es)) gs es→(∀ g∈gs,jt g.1∧d+1+k2 g.2≤12)→∀ l:List ag,l.length+(gs.flatMap fun g=>g.2.map (du g.1++·)).length≤60 →
  es.foldl (fun iz e=>l_ (fa s) f e.to.toNat (a++eX e.rune) (d+1) iz) (l,true)=(l++(gs.flatMap fun g=>g.2.map (du g.1++·)).map (a++·),true):=by
 intro gs es h
 induction h with
 | nil=>intro _ l _; simp
 | @cons g e gs es xi aB fk =>
  intro aO l a'
  obtain ⟨h1,j,p_,aa,aq⟩:=xi
  obtain ⟨bw,cB⟩:=aO g (by simp)
  rw [List.flatMap_cons,List.length_append,List.length_map] at a'
  rw [List.foldl_cons,show e.to.toNat=j from by omega,h1,xv bw,Ki j _ l (g.2,p_) aq cB (by simp only; omega),fk (fun e' rQ=>aO e' (by simp [rQ])) _ (by simp only [List.length_append,List.length_map]; omega)]
  rw [List.flatMap_cons,List.map_append,List.map_map,List.append_assoc]
  congr 3
  apply List.map_congr_left
  intro t _
  simp
theorem aaR (kL:∀ y∈s,nq s y∧fD y.1):∀ (f n:Nat) (a:ag) (d:Int) (l:List ag) (y:List ag×List bm),s[n]?=some y→0≤d→d+k2 y.1≤12→13≤d+f→l.length+y.1.length≤60→l_ (fa s) (f+1) n a d (l,true)=(l++y.1.map (a++·),true):=by
 intro f
 induction f with
 | zero=>intro n a d l y aI a8 h1 aa _; omega
 | succ f bq =>
  intro n a d l y aI a8 h1 aa a'
  obtain ⟨an,aO⟩:=kL y (List.mem_of_getElem? aI)
  have fr:=FR (x:=y) aO
  refine J7 (by rintro (h|h|h); cases h; omega; omega) (Gt aI) rfl ?_
  simp only
  have hlen:=congrArg List.length fr
  rw [List.length_append] at hlen
  have key:=fun Bg xh=>aaQ (s:=s) (a:=a) (d:=d) (f:=f+1) (fun n a l y aI hd a'=>bq n a (d+1) l y aI (by omega) hd (by omega) a') an (fun g hI=>⟨(Be aO hI).1,by have:=C_ aO hI; omega⟩) Bg xh
  cases bd:iB y.1 with
  | true =>
   rw [bd,if_pos rfl] at fr
   rw [bd,if_pos rfl] at hlen
   rw [if_pos rfl,key _ (by simp only [List.length_append,List.length_cons,List.length_nil] at hlen ⊢; omega)]
   conv=>rhs; rw [fr]
   simp
  | false =>
   rw [bd,if_neg (by decide)] at fr
   rw [bd,if_neg (by decide)] at hlen
   rw [if_neg (by decide),key _ (by simp only [List.length_nil] at hlen ⊢; omega)]
   conv=>rhs; rw [fr]
   simp
end
theorem aaS {words:List ag} (h:eD words=0):Bc (gI words)=some words:=by
 by_cases hw:words=[]
 · subst hw;rw [F1 rfl];have aF:iW [(false,[])]=([],true):=(by decide);unfold Bc;rw [aF];rw [if_pos ⟨by decide,by decide,by decide,by decide,rfl,by decide,F1 rfl⟩]
 · have im:=rS h;have c7:=AW im.2 im.1 hw;have eK:nv words=rP words:=(by unfold nv; rw [if_neg hw]);have gw:=sD h;rw [eK] at gw;obtain ⟨rZ,a8⟩:=c7.root;have aaT:=Rv im.2;have dr:=Ba h
   have C':iW (gI words)=(words,true):=by
    have:=aaR (s:=rP words) (fun y av=>⟨(c7.node y av).u3,(c7.node y av).eQ⟩) 13 0 [] 0 [] (words,rZ) a8 (by omega) (by simp only; omega) (by omega) (by have:=(y8 h).1; simp only [List.length_nil]; omega)
    unfold iW
    rw [gw,this]
    have AP:=(y8 h).1
    simp; exact AP
   unfold Bc;rw [C'];refine if_pos ⟨?_,by omega,aaO h,?_,rfl,h,rfl⟩
   · rw [Gm];intro x ad e he;rw [gw] at ad;obtain ⟨y,av,rfl⟩:=List.mem_map.1 ad;obtain ⟨g,hI,aq,j,es,a6,bT⟩:=Kh (c7.node y av).u3 e he;have aS:=(List.getElem?_eq_some_iff.1 bT).1;have Gv:=C_ (c7.node y av).eQ hI;have akp:=aaK h y av;rw [gw,tF];refine ⟨?_,by omega⟩;rcases Nat.eq_zero_or_pos j with b'|b'
     · subst b';have:g.2=words:=congrArg Prod.fst (Option.some.inj (bT.symm.trans a8))
       rw [this] at Gv; omega
     · omega
   · unfold qX
     have:=aaP (s:=rP words) (fun y av=>⟨(c7.node y av).u3,(c7.node y av).eQ,(c7.node y av).ne⟩) 13 0 0 (List.replicate (gI words).length 0) (words,rZ) a8 (by omega) (by simp only; omega) (by omega) (by rw [List.length_replicate,gw,tF]) (fun m z hm _=>by
      rw [List.getElem?_replicate] at hm
      split at hm<;>simp at hm)
     rw [Bool.or_eq_true];right;rw [gw] at this ⊢;exact this.1
theorem RE {words:List ag} (h:eD words=0):kd (gI words)=gI words:=by unfold kd; rw [aaS h]
theorem RF {words:List ag} (h:eD words=0):∀ x∈gI words,wv x:=by
 have dr:=(Ba h).2;intro x ad;refine ⟨by have:=QW h x ad; omega,fun e he=>?_⟩;have c7:=A8 h;rw [sD h] at ad dr;rw [tF] at dr;obtain ⟨y,av,rfl⟩:=List.mem_map.1 ad;obtain ⟨g,hI,aq,j,es,a6,bT⟩:=Kh (c7.node y av).1 e he;have aS:=(List.getElem?_eq_some_iff.1 bT).1;have zq:=(Be (c7.node y av).2.1 hI).1;unfold jt at zq;exact ⟨by omega,by omega,by omega,by omega⟩
theorem Kj {words:List ag} (h:eD words=0):hj (kc words)=(gI words,0):=by
 rw [←Bb h,aaJ (by have:=(Ba h).2; omega) (RF h) (by rw [RE h]; exact Ge h),RE h]
end Go.ab
