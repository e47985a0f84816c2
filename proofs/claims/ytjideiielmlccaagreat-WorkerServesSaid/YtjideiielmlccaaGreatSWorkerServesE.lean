/-
  What the law WorkerServes needs, part 5 of 7: theory, and walks through the code. Names are said short.
-/
import Derived.Test.YtjideiielmlccaaGreatSWorkerServesD
set_option linter.unusedVariables false
set_option linter.unusedSimpArgs false
set_option maxRecDepth 20000
set_option maxHeartbeats 8000000
namespace Go.Proofs
open Tryz
open Go.aF Go.ak
theorem w1:uu Tryz.prog 172 lF:=⟨λe a w=>by kernel_rfl,λa=>by simp[lF,Instr.sameBits],⟨_,underlying172,λa b=>rfl⟩,λa b w=>(aiY a b w)⟩
theorem Ka{w0:World}{F:Nat->Prop}{dd:Nat}{q:List bf}(bg:(jQ (R:=az) 176 172 dd q).p F w0)(br:∀b,F b->b<w0.heap.size):
 bG 96 #[ptr dd 0] w0 (ao λaC ai=>aC=U (q.length:Int)/\Ext w0 ai):=by
 obtain⟨⟨mS,iQ,m⟩,dB,fh,nv,wA,akV⟩:=bg;have tX:=(nv 0 _ rfl).1;obtain⟨g0,F6,nz⟩:=nv 1 _ rfl;have Kb:=(nv 2 _ rfl).1;have wV:=F6.b9.cw (Nat.zero_le _) F6.lt;have cL:=au.fS w0;have Dz:(q.map bf.pl).length=q.length:=List.length_map ..;change du w0 dd [mS,.map (some iQ)] 176 at tX;change aq k4 w0 (cp w0) mS (q.map bf.pl) at wV;change kQ lF lk w0 iQ m at Kb;change js m q at dB;exact bQ func96 rfl ntmps96 rfl (.go 8 rfl (.z (.oe underlying93 rfl rfl) (.go 7 rfl (.z (.fieldAddr x6 rfl) (have bU:=tX.row.sub 0 1 dj;.z (.dO x0 bU) (.z (.ct underlying173 (wV) rfl) (.ae 2 rfl (aM func96 rfl rfl (ao.mk ⟨(cV aa),cL.mod⟩)))))))))
theorem akW{w0:World}:
 bG 93 #[] w0 (ao λaC ai=>∃dd bw,aC=ptr dd 0/\Ext w0 ai/\(jQ (R:=az) 176 172 dd []).p bw ai/\∀b,bw b->b<ai.heap.size/\w0.heap.size<=b):=by
 have cL:=au.fS w0;refine bQ func93 rfl ntmps93 rfl (.go 6 rfl (.ac (.WU (key:=lF) (val:=lk) λai aK av aG cu aW=>have a1:=(cL.WV av aG aW).cj;.z (.build (vs:=#[(1,(.map (some aK):Value))]) (v:=.agg #[.slice none 0 0,.map (some aK)]) rfl (λ_=>by kernel_rfl)) (.ac (.box [.slice none 0 0,.map (some aK)] rfl rfl λaZ aR aA aJ ef bR=>have a6:=(a1.cW aA aJ bR).bO;.ae 2 rfl (aM func93 rfl rfl ?_))))));have bc:au az az w0 aZ [jk lF lk aK [],ay aR [.slice none 0 0,.map (some aK)] 176,lE k4 172 2 (.slice none 0 0) ([]:List (Int×Int))]:=a6.new (Mod.refl _ _) (F:=λ_=>False) ⟨0,jB.nil,λb ab=>aa⟩ (λ_ h=>h.elim);have ba:=(bc.bx [] 1 2 0).cj;have bo:=(ba.uw 0 rfl (q:=[]) js.nil).cj;obtain⟨cD,cX,cY,cR⟩:=bo.fin;exact ao.mk ⟨_,cX,rfl,cD,cY,λb ab=>⟨(cR b ab).1,(cR b ab).2.resolve_left id⟩⟩
theorem DA{p:Prop}(h:p:=by rw[gR.2];exact nB):p:=h
theorem akX{w0:World}{F:Nat->Prop}{dd:Nat}{q:List bf}{a:bf}(bg:(jQ (R:=az) 176 172 dd q).p F w0)(br:∀b,F b->b<w0.heap.size)(bX:a.Ok)(OV:q.length<=100000):
 bG 47 #[ptr dd 0,.agg #[U a.slot,U a.query,U a.shard,U a.seq,U a.f',aE a.text,U a.k,U a.batch,.bool a.first,U a.after.cq,aE a.after.word]] w0 (ao λaC ai=>aC=.bool (nt q a)/\Mod F w0 ai/\∃bw,(jQ (R:=az) 176 172 dd (gf q a)).p bw ai/\∀b,bw b->b<ai.heap.size/\(F b\/w0.heap.size<=b)):=by
 have yk:=bX.slot;have OW:=bX.shard;have dU:=au.ht (R:=az) bg (λb ab=>⟨br b ab,id⟩) (λ_ h=>h.elim);have bt:au az F w0 w0 [jQ 176 172 dd q]:=dU;obtain⟨⟨n0,gx,mF⟩,a1⟩:=bt.fK 0;obtain⟨nB,bb⟩:=a1.and (i:=0) rfl;change au az F w0 w0 [bl [ay dd [n0,.map (some gx)] 176,lE k4 172 2 n0 (q.map bf.pl),jk lF lk gx mF]] at bb;change js mF q at nB;have a6:=(bb.u 0 []).cm;have Dz:(q.map bf.pl).length=q.length:=List.length_map ..;refine bQ func47 rfl ntmps47 rfl (.go 2 rfl (.ac (.box (eO a) rfl rfl λai aK av aG cu aW=>have ba:=(a6.cW av aG aW).bT;.go 6 rfl (.z (.oe underlying93 rfl rfl) (.go 1 rfl (have f1:=ba.k 3;.a7 tA aI f1 (.bh (.lt rfl rfl) (λaJ=>?_) λaJ=>?_)))))))
 . exact .ae 22 rfl (aM func47 rfl rfl (have gR:=Fs (q:=q) (a:=a) aa;have bo:=(ba.ty (lE k4 172 2 n0 ((gf q a).map bf.pl)) 1 rfl (λec bP=>(by rw[gR.2];exact bP))).bT;have bL:=(bo.bx [3] 0 1 2).bO;have bB:=(bL.uw 1 rfl (q:=(gf q a)) DA).bO;bB.rt 1 rfl (congrArg Value.bool gR.1.symm)))
 refine .go 2 rfl (.a7 tA aI f1 (.bh (.ge rfl rfl) (λaX=>?_) λaX=>?_))
 . exact .ae 17 rfl (aM func47 rfl rfl (have gR:=Fs (q:=q) (a:=a) aa;have bo:=(ba.ty (lE k4 172 2 n0 ((gf q a).map bf.pl)) 1 rfl (λec bP=>(by rw[gR.2];exact bP))).bT;have bL:=(bo.bx [3] 0 1 2).bO;have bB:=(bL.uw 1 rfl (q:=(gf q a)) DA).bO;bB.rt 1 rfl (congrArg Value.bool gR.1.symm)))
 refine .go 2 rfl (.a7 rk aI f1 (.bh (.lt rfl rfl) (λbs=>?_) λbs=>?_))
 . exact .ae 12 rfl (aM func47 rfl rfl (have gR:=Fs (q:=q) (a:=a) aa;have bo:=(ba.ty (lE k4 172 2 n0 ((gf q a).map bf.pl)) 1 rfl (λec bP=>(by rw[gR.2];exact bP))).bT;have bL:=(bo.bx [3] 0 1 2).bO;have bB:=(bL.uw 1 rfl (q:=(gf q a)) DA).bO;bB.rt 1 rfl (congrArg Value.bool gR.1.symm)))
 refine .go 2 rfl (.a7 rk aI f1 (.bh (.ge rfl rfl) (λcH=>?_) λcH=>?_))
 . exact .ae 7 rfl (aM func47 rfl rfl (have gR:=Fs (q:=q) (a:=a) aa;have bo:=(ba.ty (lE k4 172 2 n0 ((gf q a).map bf.pl)) 1 rfl (λec bP=>(by rw[gR.2];exact bP))).bT;have bL:=(bo.bx [3] 0 1 2).bO;have bB:=(bL.uw 1 rfl (q:=(gf q a)) DA).bO;bB.rt 1 rfl (congrArg Value.bool gR.1.symm)))
 refine .go 6 rfl (.a7 tA aI f1 (.a7 rk aI f1 (.z (.build (vs:=#[(0,(U a.slot:Value)),(1,(U a.shard:Value))]) (v:=.agg #[U a.slot,U a.shard]) rfl (λ_=>by kernel_rfl)) (.ac (.alloc kc λaZ c' aA cr ef bR=>have bL:=(ba.cW aA cr bR).cU;have f2:=bL.k 4;.ac (.st kc f2 λbp aO cT=>?_))))));have bB:=(bL.c_ 4 aO cT.c2).cU;refine .ae 2 rfl (eR (λi=>Nat.beq i 9 || Nat.beq i 10) 12 (λan=>du an dd [n0,.map (some gx)] 176/\du an c' [U a.slot,U a.shard] 172/\kQ lF lk an gx mF) mixed λbZ aY=>have bI:=bB.ext aY;have f3:=bI.k 0;have f4:=bI.k 4;have f5:=bI.mp (i:=2) rfl;⟨⟨f3,f4,f5⟩,?_⟩);refine .gd 2 rfl (.z rfl (.fieldAddr x7 rfl) (.z rfl (.cd x1 rfl (λ_ al=>(al.1.cell 1 _ rfl))) (.z rfl (.cy kc rfl (λ_ al=>al.2.1.row) rfl) ?_)))
 cases nf:ll q a.pl with
 | none =>
  refine .z rfl (.ail (a:=a.pl) (val:=lk) w1 underlying174 zeroValue35 rfl rfl (λ_ al=>al.2.2) (by rw[nB.at_];exact nf)) (.gd 3 rfl (.ac rfl (.alloc eA λcM hb bu dt hc de=>have bM:=(bI.cW bu dt de).n6;have f8:=bM.k 0;have f9:=bM.k 4;have f10:=bM.mp (i:=2) rfl;⟨.inr ⟨f8,f9,f10⟩,(have f11:=bM.k 5;.ac rfl (.store eA rfl rfl rfl rfl rfl f11 dj λc7 b' gZ e6=>have b3:=(bM.c_ 5 b' e6.wI).n6;have f12:=b3.k 0;have f13:=b3.k 4;have f14:=b3.mp (i:=2) rfl;⟨.inr ⟨f12,f13,f14⟩,.gd 1 rfl (.nil (.go 32 rfl (.z (.not rfl) (.ae 3 rfl (eR (λi=>Nat.beq i 6 || Nat.beq i 7 || Nat.beq i 10) 10 (λan=>du an dd [n0,.map (some gx)] 176/\du an c' [U a.slot,U a.shard] 172) mixed λdA cG=>?_)))))⟩))⟩)));have bS:=b3.ext cG;have f15:=bS.k 0;have f16:=bS.k 4;refine⟨⟨f15,f16⟩,.gd 3 rfl (.z rfl (.fieldAddr x6 rfl) (.z rfl (.cd x0 rfl (λ_ al=>(al.1.cell 0 _ rfl))) (.z rfl (.cy kc rfl (λ_ al=>al.2.row) rfl) (.ac rfl (.buildSlice [(.agg #[U a.slot,U a.shard]:Value)] underlying173 kc rfl rfl rfl b5 λeK hf dg dy kg gE=>have cA:=aq.eD (enc:=k4) gE ([(Prod.mk a.slot a.shard)]:List (Int×Int)) 1 rfl rfl eU;have cQ:=(bS.hI dg dy kg cA).n7;have f19:=cQ.k 0;have f20:=cQ.k 4;⟨.inr ⟨f19,f20⟩,?_⟩)))))⟩;obtain⟨g1,yl,dp,bF⟩:=cQ.C7 (i:=1) rfl;have f21:=cQ.gh 6 0;refine .ac rfl (.aim yl underlying173 kc rfl vp NH rfl rfl (f21) di (by simp only[List.length_cons,List.length_nil];omega) (by unfold maxLen;simp only[List.length_cons,List.length_nil];omega) λv1 g2 ff cf dm b_=>?_);have dh:=(bF _ _ _ _ dm cf (b_.imp id .inr)).n7;clear b_;have f22:=dh.k 0;have f23:=dh.k 4;refine⟨.inr ⟨f22,f23⟩,.gd 1 rfl (.z rfl (.fieldAddr x6 rfl) ?_)⟩;have f24:=dh.Fo (i:=1) rfl;obtain⟨b1,b2,eb⟩:=f24.shape;subst eb;refine .ac rfl (.st x0 f22 λfm dP pY=>?_);have dH:=(dh.c_ 0 dP pY.c2).n7;refine⟨.inl rfl,.nil (.ae 2 rfl (pt.Am (λi=>Nat.beq i 6) (λi=>Nat.beq i 3 || Nat.beq i 4 || Nat.beq i 5) 6 (λ_=>True) mixed λhv eV=>have eB:=dH.ext eV;⟨trivial,?_⟩))⟩;refine .gd 2 rfl (.ov rfl (.fieldAddr x7 rfl) (have f25:=eB.k 0;.mT rfl (.fX x1 f25) (have f26:=eB.k 4;.mT rfl (.cy kc rfl (λ_ e=>e▸f26.row) rfl) ?_)));have f27:=eB.k 3;refine .mT rfl (.cy eA rfl (λ_ e=>e▸f27.row) rfl) ?_;have f28:=eB.mp (i:=2) rfl;exact .ac rfl (.NB a.pl a w1 underlying174 rfl rfl rfl f28 λjl gQ FX x8=>have fc:=(eB.C3 (i:=2) rfl gQ x8).n7;⟨.inl rfl,.nil (.ae 4 rfl (aM func47 rfl rfl (have gR:=W_ aa nf;have eF:=(fc.ty (lE k4 172 2 (.slice b1 ((q.map bf.pl)++[(Prod.mk a.slot a.shard)]).length b2) ((gf q a).map bf.pl)) 1 rfl (λec bP=>(by rw[gR.2,List.map_append];exact bP))).n7;have ej:=(eF.bx [3,4,5,6] 0 1 2).cU;have gw:=(ej.uw 4 rfl (q:=(gf q a)) (by rw[gR.2];exact nB.add nf)).cU;gw.rt 4 rfl (congrArg Value.bool gR.1.symm))))⟩)
 | some x =>
  refine .z rfl (.aik (a:=a.pl) (val:=lk) w1 underlying174 zeroValue35 rfl rfl (λ_ al=>al.2.2) (by rw[nB.at_];exact nf)) (.gd 3 rfl (.ac rfl (.alloc eA λcM hb bu dt hc de=>have bM:=(bI.cW bu dt de).n6;have f8:=bM.k 0;have f9:=bM.k 4;have f10:=bM.mp (i:=2) rfl;⟨.inr ⟨f8,f9,f10⟩,(have f11:=bM.k 5;.ac rfl (.st eA f11 λc7 b' e6=>?_))⟩)));have b3:=(bM.o9 (cs':=(eO x)) (i:=5) rfl b' e6).n6;have f12:=b3.k 0;have f13:=b3.k 4;have f14:=b3.mp (i:=2) rfl;refine⟨.inr ⟨f12,f13,f14⟩,.gd 1 rfl (.nil (.go 6 rfl (have f15:=b3.k 5;.a7 sK aI f15 (have f16:=b3.k 3;.a7 sK aI f16 (.bh (.gt rfl rfl) (λdy=>?_) λdy=>?_)))))⟩
  . exact .ae 22 rfl (aM func47 rfl rfl (have gR:=NL nf aa;have bS:=(b3.ty (lE k4 172 2 n0 ((gf q a).map bf.pl)) 1 rfl (λec bP=>(by rw[gR.2];exact bP))).n6;have ck:=(bS.bx [3,4,5] 0 1 2).bT;have cQ:=(ck.uw 3 rfl (q:=(gf q a)) DA).bT;cQ.rt 3 rfl (congrArg Value.bool gR.1.symm)))
  refine .go 1 rfl (.a7 sK aI f15 (.a7 sK aI f16 (.gg (.eq rfl rfl) (λe1=>?_) λe1=>?_)))
  . refine .go 1 rfl (.a7 x5 aI f15 (.a7 x5 aI f16 (.bh (.gt rfl rfl) (λgq=>?_) λgq=>?_)))
    . exact .ae 10 rfl (aM func47 rfl rfl (have gR:=NL nf aa;have bS:=(b3.ty (lE k4 172 2 n0 ((gf q a).map bf.pl)) 1 rfl (λec bP=>(by rw[gR.2];exact bP))).n6;have ck:=(bS.bx [3,4,5] 0 1 2).bT;have cQ:=(ck.uw 3 rfl (q:=(gf q a)) DA).bT;cQ.rt 3 rfl (congrArg Value.bool gR.1.symm)))
    refine .go 9 rfl (.z (.not rfl) (.ae 6 rfl (pt.Am (λi=>Nat.beq i 6) (λi=>Nat.beq i 3 || Nat.beq i 4 || Nat.beq i 5) 6 (λ_=>True) mixed λdA cG=>have bS:=b3.ext cG;⟨trivial,?_⟩)));refine .gd 2 rfl (.ov rfl (.fieldAddr x7 rfl) (have f17:=bS.k 0;.mT rfl (.fX x1 f17) (have f18:=bS.k 4;.mT rfl (.cy kc rfl (λ_ e=>e▸f18.row) rfl) ?_)));have f19:=bS.k 3;refine .mT rfl (.cy eA rfl (λ_ e=>e▸f19.row) rfl) ?_;have f20:=bS.mp (i:=2) rfl;exact .ac rfl (.NB a.pl a w1 underlying174 rfl rfl rfl f20 λeK dg kg gE=>have ck:=(bS.C3 (i:=2) rfl dg gE).n6;⟨.inl rfl,.nil (.ae 4 rfl (aM func47 rfl rfl (have gR:=Je aa nf aa;have cQ:=(ck.ty (lE k4 172 2 n0 ((gf q a).map bf.pl)) 1 rfl (λec bP=>(by rw[gR.2,NI];exact bP))).n6;have dh:=(cQ.bx [3,4,5] 0 1 2).bT;have dH:=(dh.uw 3 rfl (q:=(gf q a)) (by rw[gR.2];exact nB.put nf)).bT;dH.rt 3 rfl (congrArg Value.bool gR.1.symm))))⟩)
  refine .go 15 rfl (.z (.not rfl) (.ae 6 rfl (pt.Am (λi=>Nat.beq i 6) (λi=>Nat.beq i 3 || Nat.beq i 4 || Nat.beq i 5) 6 (λ_=>True) mixed λdA cG=>have bS:=b3.ext cG;⟨trivial,?_⟩)));refine .gd 2 rfl (.ov rfl (.fieldAddr x7 rfl) (have f17:=bS.k 0;.mT rfl (.fX x1 f17) (have f18:=bS.k 4;.mT rfl (.cy kc rfl (λ_ e=>e▸f18.row) rfl) ?_)));have f19:=bS.k 3;refine .mT rfl (.cy eA rfl (λ_ e=>e▸f19.row) rfl) ?_;have f20:=bS.mp (i:=2) rfl;exact .ac rfl (.NB a.pl a w1 underlying174 rfl rfl rfl f20 λeK dg kg gE=>have ck:=(bS.C3 (i:=2) rfl dg gE).n6;⟨.inl rfl,.nil (.ae 4 rfl (aM func47 rfl rfl (have gR:=Je aa nf aa;have cQ:=(ck.ty (lE k4 172 2 n0 ((gf q a).map bf.pl)) 1 rfl (λec bP=>(by rw[gR.2,NI];exact bP))).n6;have dh:=(cQ.bx [3,4,5] 0 1 2).bT;have dH:=(dh.uw 3 rfl (q:=(gf q a)) (by rw[gR.2];exact nB.put nf)).bT;dH.rt 3 rfl (congrArg Value.bool gR.1.symm))))⟩)
theorem akY{w0:World}{F:Nat->Prop}{dd:Nat}{a:bf}{q:List bf}(bg:(jQ (R:=az) 176 172 dd (a::q)).p F w0)(br:∀b,F b->b<w0.heap.size)(OV:q.length<=100000):
 bG 50 #[ptr dd 0] w0 (ao λaC ai=>aC=.tuple #[lk a,.bool true]/\Mod F w0 ai/\∃bw,(jQ (R:=az) 176 172 dd q).p bw ai/\∀b,bw b->b<ai.heap.size/\(F b\/w0.heap.size<=b)):=by
 have dU:=au.ht (R:=az) bg (λb ab=>⟨br b ab,id⟩) (λ_ h=>h.elim);have bt:au az F w0 w0 [jQ 176 172 dd (a::q)]:=dU;refine bQ func50 rfl ntmps50 rfl (.go 2 rfl (.ac (.alloc eA λai aK av aG cu aW=>?_)));have bb:=(bt.cW av aG aW).bO;obtain⟨hW,dx,ds,dc⟩:=bb.ez 0;refine .go 6 rfl (.ac (.aH Js rfl (Ka (w0:=ai) dx (λb ab=>(ds b ab).2)) ?_));rintro _ aZ ⟨rfl,aA⟩;have a6:=bb.ext aA;clear dx ds dc;refine .kS (.eq rfl rfl) (by exact decide_eq_false (by simp only[List.length_cons];omega)) ?_;obtain⟨⟨n0,gx,mF⟩,bc⟩:=a6.fK 0;obtain⟨nB,ba⟩:=bc.and (i:=0) rfl;change au az F w0 aZ [bl [ay dd [n0,.map (some gx)] 176,lE k4 172 2 n0 ((a::q).map bf.pl),jk lF lk gx mF],ay aK [ad,ad,ad,ad,ad,aE [],ad,ad,.bool false,ad,aE []] 35] at ba;change js mF (a::q) at nB;have bo:=(ba.u 0 [1]).bT;have ik:((a::q).map bf.pl).length=q.length+1:=(by simp);refine .go 7 rfl (have f1:=bo.k 1;.a7 x6 x0 f1 ?_);have f2:=bo.Fo (i:=2) rfl;obtain⟨aw,bx,e5,a_,bU,cA,cF⟩:=aq.jq f2 underlying173 kc vp (k:=.i64) (n:=0) (0) aa aV;refine .z (.indexAddr rfl rfl bU) (have Yu:aw=a.pl:=(by simpa using a_.symm);.z (.cy kc rfl (λ_ e=>e▸cF) rfl) ?_);refine .ac (.alloc kc λbp bK aO aX ef bR=>have bB:=(bo.cW aO aX bR).cU;have f3:=bB.k 4;.ac (.st kc f3 λbZ aY cT=>?_));have bI:=(bB.c_ 4 aY cT.c2).cU;refine .go 6 rfl (have f4:=bI.k 1;.a7 x6 x0 f4 ?_);obtain⟨g1,yl,dp,bF⟩:=bI.C7 (i:=2) rfl;obtain⟨v1,g2,cI,OX,b_⟩:=jB.from (P:=Tryz.prog) yl underlying173 kc vp (k:=.i64) (n:=1) (1) rfl di;refine .z (.qX rfl rfl rfl rfl cI) ?_;have bq:=(bF _ _ _ _ (Mod.refl _ _) OX (b_.elim .inl λx=>.inr (.inl x))).cU;clear b_;refine .go 1 rfl (.z (.fieldAddr x6 rfl) ?_);have f5:=bq.Fo (i:=2) rfl;obtain⟨b1,b2,eb⟩:=f5.shape;subst eb;have f6:=bq.k 1;refine .ac (.st x0 f6 λcM bu de=>?_);have bM:=(bq.c_ 1 bu de.c2).cU;refine .ae 2 rfl (eR (λi=>Nat.beq i 6 || Nat.beq i 7) 7 (λan=>du an dd [(.slice b1 (((a::q).map bf.pl).drop 1).length b2),.map (some gx)] 176/\du an bK [U aw.1,U aw.2] 172/\kQ lF lk an gx mF) mixed λc7 b'=>have b3:=bM.ext b';have f7:=b3.k 1;have f8:=b3.k 4;have f9:=b3.mp (i:=3) rfl;⟨⟨f7,f8,f9⟩,?_⟩);refine .gd 2 rfl (.z rfl (.fieldAddr x7 rfl) (.z rfl (.cd x1 rfl (λ_ al=>(al.1.cell 1 _ rfl))) ?_));refine .z rfl (.cy kc rfl (λ_ al=>al.2.1.row) rfl) (.z rfl (.NC (a:=aw) (val:=lk) w1 underlying174 zeroValue35 rfl rfl (λ_ al=>al.2.2) (by rw[Yu];exact nB.head)) (.ac rfl (.alloc eA λdA cC cG bs gZ e6=>?_)));have ck:=(b3.cW cG bs e6).n6;have f12:=ck.k 1;have f13:=ck.k 4;have f14:=ck.mp (i:=3) rfl;refine⟨.inr ⟨f12,f13,f14⟩,(have f15:=ck.k 5;.ac rfl (.st eA f15 λeK dg gE=>?_))⟩;have cQ:=(ck.o9 (cs':=(eO a)) (i:=5) rfl dg gE).n6;refine⟨.inl rfl,.nil (.ae 1 rfl ?_)⟩;refine pt.Am (λi=>Nat.beq i 5) (λi=>Nat.beq i 3 || Nat.beq i 4) 6 (λ_=>True) mixed λff dm=>have dh:=cQ.ext dm;⟨trivial,?_⟩
 refine .gd 2 rfl (.ov rfl (.fieldAddr x7 rfl) (have f16:=dh.k 1;.mT rfl (.fX x1 f16) ?_));have f17:=dh.k 4;refine .mT rfl (.cy kc rfl (λ_ e=>e▸f17.row) rfl) ?_;have f18:=dh.mp (i:=3) rfl;refine .ac rfl (.WY aw w1 underlying174 rfl rfl rfl f18 λfm dP vK pY=>have dH:=(dh.C3 (i:=3) rfl dP pY).n6;⟨.inr trivial,.nil ?_⟩);have f19:=dH.k 5;refine .go 2 rfl (.z (.cy eA rfl (λ_ e=>e▸f19.row) rfl) ?_);have f20:=dH.k 0;refine .ac (.st eA f20 λhv eV x8=>?_);have eB:=(dH.o9 (cs':=(eO a)) (i:=0) rfl eV x8).n6;have f21:=eB.k 0;exact .ae 2 rfl (MD func50 rfl rfl eA f21.row rfl rfl (have fc:=(eB.ty (lE k4 172 2 (.slice b1 (((a::q).map bf.pl).drop 1).length b2) (q.map bf.pl)) 2 rfl (λec bP=>by simpa using bP)).n6;have eF:=(fc.bx [0,4,5] 1 2 3).bT;have ej:=(eF.uw 3 rfl (q:=q) (by rw[Yu];exact nB.pop)).bT;ej.rt 3 rfl rfl))
theorem akZ{w0:World}{F:Nat->Prop}{dd:Nat}(bg:(jQ (R:=az) 176 172 dd []).p F w0)(br:∀b,F b->b<w0.heap.size):
 bG 50 #[ptr dd 0] w0 (ao λaC ai=>aC=.tuple #[lk NG,.bool false]/\Ext w0 ai):=by
 have cL:=au.fS w0;refine bQ func50 rfl ntmps50 rfl (.go 2 rfl (.ac (.alloc eA λai aK av aG cu aW=>have a1:=(cL.cW av aG aW).cj;.go 6 rfl (.ac (.aH Js rfl (Ka (w0:=ai) ((jQ (R:=az) 176 172 dd []).keep bg a1.mod (λ_ _ h=>h) (λ_ h=>h.elim)) (λb ab=>Nat.lt_of_lt_of_le (br b ab) a1.mod.size)) ?_)))));rintro _ aZ ⟨rfl,aA⟩;have bb:=a1.ext aA;refine .qE (.eq rfl rfl) dz (.go 4 rfl (.z (.build (vs:=#[]) (v:=.agg #[ad,ad,ad,ad,ad,aE [],ad,ad,.bool false,ad,aE []]) rfl (λ_=>by kernel_rfl)) (have f1:=bb.k 0;.ac (.st eA f1 λbp aO bR=>?_))));have a6:=(bb.c_ 0 aO bR.wI).cj;have f2:=a6.k 0;exact .ae 2 rfl (MD func50 rfl rfl eA f2.row rfl rfl (ao.mk ⟨rfl,a6.mod⟩))
theorem ak0{w0:World}{F:Nat->Prop}{dd:Nat}{q:List bf}(bg:(jQ (R:=az) 176 172 dd q).p F w0)(br:∀b,F b->b<w0.heap.size)(OV:q.length<=100000):
 bG 49 #[ptr dd 0] w0 (ao λaC ai=>(∃g,Acc eO 35 11 ai g aC q/\(g=0\/w0.heap.size<g))/\Ext w0 ai):=by
 obtain⟨⟨mS,iQ,m⟩,dB,fh,nv,wA,akV⟩:=bg;have tX:=(nv 0 _ rfl).1;obtain⟨g0,F6,nz⟩:=nv 1 _ rfl;have Kb:=(nv 2 _ rfl).1;have wV:=F6.b9.cw (Nat.zero_le _) F6.lt;have cL:=au.fS w0;have Dz:(q.map bf.pl).length=q.length:=List.length_map ..;change du w0 dd [mS,.map (some iQ)] 176 at tX;change aq k4 w0 (cp w0) mS (q.map bf.pl) at wV;change kQ lF lk w0 iQ m at Kb;change js m q at dB;refine bQ func49 rfl ntmps49 rfl (.go 8 rfl (.z (.oe underlying93 rfl rfl) (.go 12 rfl (.z (.fieldAddr x6 rfl) (have bU:=tX.row.sub 0 1 dj;.z (.dO x0 bU) (.z (.ct underlying173 (wV) rfl) (have a1:au az az w0 w0 [aS eO 35 11 (.slice none 0 0) []]:=cL.fD (Mod.refl _ _) Acc.nil (.inl rfl);.ae 3 rfl (dV (I:=λm E W=>∃(eQ:Value) (l:List bf) (i:Nat),E=[(0,ptr dd 0),(3,eQ),(11,mS),(12,U (((q.map bf.pl).length:Nat):Int)),(13,U (i:Int))]/\m=q.length-i/\au az az w0 W [aS eO 35 11 eQ l]/\(l=q.take i)/\(l.length=i)) ?_ ?_))))))))
 . refine⟨_,_,⟨(.slice none 0 0:Value),([]:List bf),(0:Nat),rfl,rfl,a1,dz,dz⟩,bj⟩
 . rintro _ _ ai ⟨eQ,l,i,rfl,rfl,bt,bk,mv⟩ b4;refine .go 2 rfl (.bh (.lt rfl rfl) (λaG=>?_) λaG=>?_)
   . refine .ae 2 rfl ?_;have f1:=bt.out wV (λ_ _ h=>h);obtain⟨aw,aR,e5,a_,cI,cA,cF⟩:=aq.fv f1 underlying173 kc vp i aV;refine .go 6 rfl (.z (.indexAddr rfl rfl cI) ?_);obtain⟨a,ak1,asu,pk⟩:=dB.Cm a_;refine .z (.cy kc rfl (λ_ e=>e▸cF) rfl) ?_;refine .ac (.alloc kc λaZ bx av aJ cu aW=>have a6:=(bt.cW av aJ aW).bO;have f2:=a6.k 1;.ac (.st kc f2 λbp aA bR=>?_));have bc:=(a6.c_ 1 aA bR.c2).bO;refine .ae 1 rfl (pt.Am (λi=>Nat.beq i 7 || Nat.beq i 8) (λi=>Nat.beq i 4 || Nat.beq i 5 || Nat.beq i 6) 10 (λ_=>True) mixed λbZ aO=>have ba:=bc.ext aO;⟨trivial,?_⟩);refine .gd 3 rfl (.ov rfl (.fieldAddr x7 rfl) (have f3:=tX.row.keep ba.mod (λh=>h);have e0:=f3.sub 1 1 dj;.mT rfl (.cd x1 rfl (λ_ e=>e▸e0)) ?_));have f4:=ba.k 1;refine .mT rfl (.cy kc rfl (λ_ e=>e▸f4.row) rfl) ?_;have f5:=Kb.keep ba.mod (λh=>h);refine .mT rfl (.NC (a:=aw) (val:=lk) w1 underlying174 zeroValue35 rfl rfl (λ_ e=>e▸f5) pk) ?_;refine .ac rfl (.buildSlice [(.agg #[U a.slot,U a.query,U a.shard,U a.seq,U a.f',aE a.text,U a.k,U a.batch,.bool a.first,U a.after.cq,aE a.after.word]:Value)] underlying39 eA rfl rfl rfl b5 λcM bK aY aX fH cT=>have dp:=aq.eD (enc:=eO) cT ([a]:List bf) 1 rfl rfl eU;have bL:=(ba.hI aY aX fH dp).cm;⟨.inr trivial,?_⟩);obtain⟨g2,f6,fa,bF⟩:=bL.bW 0;have f7:=bL.gh 2 0;refine .ac rfl (.append f6 underlying39 eA rfl r3 C8 rfl rfl (f7) ol fG λv1 g1 c7 cf bu b_ hc=>have bB:=(bF _ _ _ _ bu cf b_).cm;⟨.inr trivial,?_⟩);clear b_;exact .gd 1 rfl (.nil (.go 2 rfl (.z (.cb ((i+1:Nat):Int) rfl rfl aa) (have bI:=(bB.dw [0]).cj;.ae 2 rfl ((b4 _ _ _ ⟨(v1:Value),((l++[a]):List bf),(i+1:Nat),rfl,rfl,bI,(by first|exact aiI bk ak1|(exfalso;omega)),ap⟩ aa).sub bj)))))
   refine .ae 9 rfl (aM func49 rfl rfl ?_);obtain⟨ei,ax,aU⟩:=bt.tl (i:=0) rfl;exact ao.mk ⟨⟨_,Acc.cast ax (by rw[bk,List.take_of_length_le aa]),aU⟩,bt.mod⟩
theorem ak2{w0:World}{F:Nat->Prop}{ri kG ou dd iQ:Nat}{mS:Value}(slot query:Int){q:List bf}(p:Int×Int)(bg:(Jd (R:=az) 3 93 176 ri kG ou dd iQ mS slot query q).p F w0)(br:∀b,F b->b<w0.heap.size)(bX:Jc q p):
 bG 98 #[.agg #[U p.1,U p.2],ptr ri 0,ptr kG 0,ptr ou 0] w0 (ao λaC ai=>aC=.bool (lS slot query q p).2/\Mod F w0 ai/\∃bw,(Jd (R:=az) 3 93 176 ri kG ou dd iQ mS slot query ((lS slot query q p).1)).p bw ai/\∀b,bw b->b<ai.heap.size/\(F b\/w0.heap.size<=b)):=by
 obtain⟨x,ah,Kc,gK⟩:=bX;have qu:=aiF (slot:=slot) (query:=query) ah Kc gK;have Dk:p.1=x.slot:=(by rw[<-Kc];rfl);have dU:=au.ht (R:=az) bg (λb ab=>⟨br b ab,id⟩) (λ_ h=>h.elim);have bt:au az F w0 w0 [Jd 3 93 176 ri kG ou dd iQ mS slot query q]:=dU;obtain⟨mF,a1⟩:=bt.fK 0;obtain⟨nB,bb⟩:=a1.and (i:=0) rfl;change au az F w0 w0 [bl [ay ri [U slot] 3,ay kG [ptr dd 0] 93,ay ou [U query] 3,ay dd [mS,.map (some iQ)] 176,jk lF lk iQ mF]] at bb;change js mF q at nB;have a6:=(bb.u 0 []).cU;have pk:gz mF p=some x:=(by rw[<-Kc];exact nB.mem ah);refine bQ func98 rfl ntmps98 rfl (.go 2 rfl (.ac (.box [U p.1,U p.2] rfl rfl λai aK av aG cu aW=>have ba:=(a6.cW av aG aW).n6;.ae 3 rfl (eR (λi=>false) 16 (λan=>Mod (ca 0) ai an) mixed λaZ aA=>have bo:=ba.ext aA;have lo:Mod (ca 0) ai aZ:=Mod.ga aA;⟨lo,?_⟩))));refine .z rfl (.fieldAddr aiV rfl) (have f1:=ba.k 5;.z rfl (.cd aI rfl (λ_ al=>(f1.cell 0 _ rfl).bD al (Nat.succ_ne_zero _))) (have f2:=ba.k 0;.z rfl (.cd aI rfl (λ_ al=>(f2.cell 0 _ rfl).bD al (Nat.succ_ne_zero _))) (.gg rfl (.eq rfl rfl) (λaJ=>?_) λaJ=>?_)))
 . refine .gd 1 rfl (have f3:=ba.k 1;.z rfl (.cd vw rfl (λ_ al=>(f3.cell 0 _ rfl).bD al (Nat.succ_ne_zero _))) (.gd 1 rfl (.z rfl (.fieldAddr x7 rfl) (have f4:=ba.k 3;.z rfl (.cd x1 rfl (λ_ al=>(f4.cell 1 _ rfl).bD al (Nat.succ_ne_zero _))) (.z rfl (.cy kc rfl (λ_ al=>f1.row.bD al (Nat.succ_ne_zero _)) rfl) (have f5:=ba.mp (i:=4) rfl;.z rfl (.NC (a:=p) (val:=lk) w1 underlying174 zeroValue35 rfl rfl (λ_ al=>kQ.keep f5 al (Nat.succ_ne_zero _)) pk) (.z rfl (.field (v:=(U x.query:Value)) rfl (λ_=>by kernel_rfl)) (have f6:=ba.k 2;.z rfl (.cd aI rfl (λ_ al=>(f6.cell 0 _ rfl).bD al (Nat.succ_ne_zero _))) (.dN rfl (.le rfl rfl) λbx aX=>.gd 2 rfl (.nil ?_))))))))));refine .ae 5 rfl ?_;cases bx
   case true =>
    replace aX:=zi aX;refine .ae 1 rfl (pt.Am (λi=>Nat.beq i 5) (λi=>Nat.beq i 0 || Nat.beq i 3 || Nat.beq i 4) 6 (λ_=>True) mixed λbp aO=>have bL:=bo.ext aO;⟨trivial,?_⟩);have f7:=bL.k 1;refine .mT rfl (.fX vw f7) (.gd 1 rfl (.ov rfl (.fieldAddr x7 rfl) (have f8:=bL.k 3;.mT rfl (.fX x1 f8) (have f9:=bL.k 5;.mT rfl (.cy kc rfl (λ_ e=>e▸f9.row) rfl) ?_))));have f10:=bL.mp (i:=4) rfl;refine .ac rfl (.WY p w1 underlying174 rfl rfl rfl f10 λbZ aY ef bR=>have bB:=(bL.C3 (i:=4) rfl aY bR).n6;⟨.inr trivial,.nil (.ae 5 rfl (aM func98 rfl rfl ?_))⟩);have F7:uv slot query x=true:=decide_eq_true aa;rw[F7] at qu;simp only[if_true,if_false,Bool.false_eq_true] at qu;have bI:=(bB.cC [5] 0 1 2 3 4).bO;have bq:=(bI.ty (pA (js (mf mF p) ((lS slot query q p).1)) (bl [ay ri [U slot] 3,ay kG [ptr dd 0] 93,ay ou [U query] 3,ay dd [mS,.map (some iQ)] 176,jk lF lk iQ (mf mF p)])) 1 rfl (λec bP=>⟨(by rw[qu];simp only[<-Kc];exact nB.del (a:=x)),bP⟩)).bO;have bM:=(bq.fC (A:=λm:List ((Int×Int)×bf)=>pA (js m ((lS slot query q p).1)) (bl [ay ri [U slot] 3,ay kG [ptr dd 0] 93,ay ou [U query] 3,ay dd [mS,.map (some iQ)] 176,jk lF lk iQ m])) (mf mF p) (i:=1) rfl).bO;have b3:=(bM.dw [1]).cj;obtain⟨cD,cX,cY,cR⟩:=b3.fin;exact ao.mk ⟨(congrArg Value.bool (by rw[qu])),cD,cX,cY,cR⟩
   replace aX:=zj aX;refine .ae 7 rfl (aM func98 rfl rfl ?_);have F7:uv slot query x=false:=decide_eq_false aa;rw[F7] at qu;simp only[if_true,if_false,Bool.false_eq_true] at qu;have bL:=(bo.cC [5] 0 1 2 3 4).bO;have bB:=(bL.ty (pA (js mF ((lS slot query q p).1)) (bl [ay ri [U slot] 3,ay kG [ptr dd 0] 93,ay ou [U query] 3,ay dd [mS,.map (some iQ)] 176,jk lF lk iQ mF])) 1 rfl (λec bP=>⟨(by rw[qu];exact nB),bP⟩)).bO;have bI:=(bB.fC (A:=λm:List ((Int×Int)×bf)=>pA (js m ((lS slot query q p).1)) (bl [ay ri [U slot] 3,ay kG [ptr dd 0] 93,ay ou [U query] 3,ay dd [mS,.map (some iQ)] 176,jk lF lk iQ m])) (mF) (i:=1) rfl).bO;have bq:=(bI.dw [1]).cj;obtain⟨cD,cX,cY,cR⟩:=bq.fin;exact ao.mk ⟨(congrArg Value.bool (by rw[qu])),cD,cX,cY,cR⟩
 refine .gd 12 rfl (.nil (.ae 12 rfl (aM func98 rfl rfl ?_)));have F7:uv slot query x=false:=decide_eq_false aa;rw[F7] at qu;simp only[if_true,if_false,Bool.false_eq_true] at qu;have bL:=(bo.cC [5] 0 1 2 3 4).bO;have bB:=(bL.ty (pA (js mF ((lS slot query q p).1)) (bl [ay ri [U slot] 3,ay kG [ptr dd 0] 93,ay ou [U query] 3,ay dd [mS,.map (some iQ)] 176,jk lF lk iQ mF])) 1 rfl (λec bP=>⟨(by rw[qu];exact nB),bP⟩)).bO;have bI:=(bB.fC (A:=λm:List ((Int×Int)×bf)=>pA (js m ((lS slot query q p).1)) (bl [ay ri [U slot] 3,ay kG [ptr dd 0] 93,ay ou [U query] 3,ay dd [mS,.map (some iQ)] 176,jk lF lk iQ m])) (mF) (i:=1) rfl).bO;have bq:=(bI.dw [1]).cj;obtain⟨cD,cX,cY,cR⟩:=bq.fin;exact ao.mk ⟨(congrArg Value.bool (by rw[qu])),cD,cX,cY,cR⟩
theorem ak3(ri kG ou dd iQ:Nat)(mS:Value)(slot query:Int):NK Tryz.prog 98 [] [ptr ri 0,ptr kG 0,ptr ou 0] lF (λq=>Jd (R:=az) 3 93 176 ri kG ou dd iQ mS slot query q) Jc (lS slot query):=⟨ai9,λs F w x bg br bX=>ak2 slot query x bg br bX⟩
theorem ak4{w0:World}{F G:Nat->Prop}{b8:Type}{A:b8->dq az}{kP:FuncId}{first cap:List Value}{ok:b8->(Int×Int)->Prop}{f:b8->(Int×Int)->b8×Bool}{eQ:Value}{l:List (Int×Int)}(dD:b8)(aD:NK Tryz.prog kP first cap lF A ok f)(bg:(A dD).p F w0)(br:∀b,F b->b<w0.heap.size)(bk:aq k4 w0 G eQ l)(ch:∀b,G b->¬ F b)(dE:∀b,G b->b<w0.heap.size)(bX:A9 ok f dD l)(mv:l.length<=100000):
 bG 141 #[eQ,.func (.func kP) first.toArray cap.toArray] w0 (ao λaC ai=>Mod F w0 ai/\((aC=U (-1)/\o4 f dD l=l/\∃bw,(A (kR f dD l)).p bw ai/\∀b,bw b->b<ai.heap.size/\(F b\/w0.heap.size<=b))\/∃k x,aC=U ((k:Nat):Int)/\l[k]?=some x/\vr f dD l k/\(f (kR f dD (l.take k)) x).2=true/\∃bw,(A (kR f dD (l.take (k+1)))).p bw ai/\∀b,bw b->b<ai.heap.size/\(F b\/w0.heap.size<=b))):=by
 have dU:=au.ht (R:=az) bg (λb ab=>⟨br b ab,id⟩) (λ_ h=>h.elim);have bt:au az F w0 w0 [A dD]:=dU;refine bQ Tryz.func141 rfl Tryz.ntmps141 rfl (.go 8 rfl (.z (.ct Tryz.underlying173 (bk) rfl) (.ae 3 rfl (dV (I:=λm E W=>∃(k:Nat),E=[(0,eQ),(1,.func (.func kP) first.toArray cap.toArray),(7,U (((l.length:Nat):Int))),(8,U (((k:Nat):Int)))]/\m=l.length-k/\au az F w0 W [A (kR f dD (l.take k))]/\(vr f dD l k)) ?_ ?_))))
 . refine⟨_,_,⟨(0:Nat),rfl,rfl,bt,(by exact vr.start f dD l)⟩,⟨rfl,rfl,rfl,rfl,trivial⟩⟩
 . rintro _ _ ai ⟨k,rfl,rfl,a1,DB⟩ b4;refine .go 2 rfl (.bh (.lt rfl rfl) (λaG=>?_) λaG=>?_)
   . refine .ae 2 rfl ?_;have f1:=a1.out bk ch;obtain⟨aw,aR,e5,a_,bU,cA,cF⟩:=aq.fv f1 Tryz.underlying173 kc vp k aV;refine .go 14 rfl (.z (.indexAddr rfl rfl bU) (.z (.cy kc rfl (λ_ e=>e▸cF) rfl) ?_));obtain⟨hW,dx,ds,dc⟩:=a1.ez 0;refine .ac (.call (first:=first) (cap:=cap) (vs:=[lF aw]) aD.cl rfl rfl (aD.call _ _ _ _ dx (λb ab=>(ds b ab).2) (bX.get a_)) ?_);rintro _ aZ ⟨rfl,av,fr,gX,dZ⟩;have bb:=(dc _ _ _ av gX dZ).cj;clear dx ds dc gX dZ;generalize aJ:(f ((kR f dD (l.take k))) aw).2=bx;replace aJ:=aJ.symm;refine .ae 1 rfl ?_;cases bx
     case true =>
      replace aJ:=aJ.symm;refine .ae 6 rfl (aM Tryz.func141 rfl rfl ?_);have a6:=(bb.ty (A (kR f dD (l.take (k+1)))) 0 rfl (λec bP=>(by rw[Ja a_];exact bP))).cj;obtain⟨cD,cX,cY,cR⟩:=a6.fin;exact ao.mk ⟨cD,.inr ⟨k,_,rfl,a_,DB,(by assumption),cX,cY,cR⟩⟩
     replace aJ:=aJ.symm;have a6:=(bb.ty (A (kR f dD (l.take (k+1)))) 0 rfl (λec bP=>(by rw[Ja a_];exact bP))).cj;exact .go 4 rfl (.z (.cb (((k+1:Nat):Int)) rfl rfl (by omega)) (.ae 2 rfl ((b4 _ _ _ ⟨(k+1:Nat),rfl,rfl,a6,(by first|exact DB.next a_ (by assumption)|(exfalso;omega))⟩ (by omega)).sub ⟨rfl,rfl,rfl,rfl,trivial⟩)))
   refine .ae 8 rfl (aM Tryz.func141 rfl rfl ?_);have bb:=(a1.ty (A (kR f dD l)) 0 rfl (λec bP=>(by rw[List.take_of_length_le (by omega)] at bP;exact bP))).cj;obtain⟨cD,cX,cY,cR⟩:=bb.fin;exact ao.mk ⟨cD,.inl ⟨rfl,DB.all (by omega),cX,cY,cR⟩⟩
theorem Yv{p:Prop}(h:p:=by first|exact w2.off (w2.at a_) bd|exact w2.on (w2.at a_) bd|(exfalso;omega)):p:=h
theorem ak5{w0:World}{F:Nat->Prop}{b8:Type}{A:b8->dq az}{kP:FuncId}{first cap:List Value}{ok:b8->(Int×Int)->Prop}{f:b8->(Int×Int)->b8×Bool}{eQ:Value}{l:List (Int×Int)}(dD:b8)(aD:NK Tryz.prog kP first cap lF A ok f)(bg:(bl (R:=az) [A dD,lE k4 172 2 eQ l]).p F w0)(br:∀b,F b->b<w0.heap.size)(bX:A9 ok f dD l)(mv:l.length<=100000):
 bG 97 #[eQ,.func (.func kP) first.toArray cap.toArray] w0 (ao λaC ai=>Mod F w0 ai/\∃bw,(bl (R:=az) [A ((kR f dD l)),lE k4 172 2 aC ((o4 f dD l))]).p bw ai/\∀b,bw b->b<ai.heap.size/\(F b\/w0.heap.size<=b)):=by
 have dU:=au.ht (R:=az) bg (λb ab=>⟨br b ab,id⟩) (λ_ h=>h.elim);have bt:au az F w0 w0 [bl [A dD,lE k4 172 2 eQ l]]:=dU;have a1:=(bt.u 0 []).bO;refine bQ Tryz.func97 rfl Tryz.ntmps97 rfl ?_;obtain⟨hW,asv,dx,ak6,Kd,ds,ak7,dc⟩:=a1.Cy (i:=0) (j:=1) rfl rfl (by decide);refine .go 8 rfl (.ac (.aH ajh rfl (ak4 (first:=first) (cap:=cap) dD aD dx (λb ab=>(ds b ab).2) (aiu ak6) Kd ak7 bX mv) ?_));rintro asw ai ⟨av,bU⟩;rcases bU with ⟨rfl,mU,ak8,gr,OY⟩|⟨k,asx,rfl,Bs,DB,ak9,ak8,gr,OY⟩
 . skip
   have bb:au az F w0 ai [A (kR f dD l),lE k4 172 2 eQ l]:=dc _ _ _ av gr OY;refine .go 6 rfl (.dN (.eq rfl rfl) λaK aG=>?_);obtain rfl:aK=true:=aG.trans (by rfl);refine .ae 7 rfl (aM Tryz.func97 rfl rfl ?_);have a6:=(bb.ty (lE k4 172 2 eQ ((o4 f dD l))) 1 rfl (λec bP=>(by rw[mU];exact bP))).bO;have bc:=(a6.aR [] 0 1).cj;obtain⟨cD,cX,cY,cR⟩:=bc.fin;exact ao.mk ⟨cD,cX,cY,cR⟩
 . skip
   have bb:au az F w0 ai [A (kR f dD (l.take (k+1))),lE k4 172 2 eQ l]:=dc _ _ _ av gr OY;have asy:=(List.getElem?_eq_some_iff.1 Bs).1;refine .go 6 rfl (.kS (.eq rfl rfl) (by exact decide_eq_false (by omega)) (.go 7 rfl ?_));refine .z (.cb (((k+1:Nat):Int)) rfl rfl (by omega)) (have bc:=(bb.dw [1,0]).bO;.ae 3 rfl (dV (I:=λm E W=>∃(i:Nat) (j:Nat) (cur:List (Int×Int)),E=[(0,eQ),(1,.func (.func kP) first.toArray cap.toArray),(5,U (((i:Nat):Int))),(6,U (((j:Nat):Int)))]/\m=l.length-j/\au az F w0 W [lE k4 172 2 eQ cur,A (kR f dD (l.take j))]/\(sG f dD l cur i j)/\(j<=l.length)) ?_ ?_))
   . refine⟨_,_,⟨(k:Nat),(k+1:Nat),(l:List (Int×Int)),rfl,rfl,bc,(by exact sG.start DB Bs ak9),(by omega)⟩,⟨rfl,rfl,rfl,rfl,trivial⟩⟩
   . rintro _ _ aZ ⟨i,j,cur,rfl,rfl,a6,w2,J3⟩ b4;have hP:=w2.len;have m':=w2.Fq;have f1:=a6.Fo (i:=0) rfl;refine .go 5 rfl (.z (.ct Tryz.underlying173 (f1) rfl) (.bh (.lt rfl rfl) (λaJ=>?_) λaJ=>?_))
     . refine .ae 1 rfl ?_;obtain⟨aw,bx,e5,a_,cI,cA,cF⟩:=aq.fv f1 Tryz.underlying173 kc vp j aV;refine .go 8 rfl (.z (.indexAddr rfl rfl cI) (.z (.cy kc rfl (λ_ e=>e▸cF) rfl) ?_));refine .ac (.alloc kc λbp bK aA aX cu aW=>have bo:=(a6.cW aA aX aW).cm;have f2:=bo.k 2;.ac (.st kc f2 λbZ aO bR=>?_));have bL:=(bo.c_ 2 aO bR.c2).cm;have f3:=bL.k 2;refine .go 4 rfl (.z (.cy kc rfl (λ_ e=>e▸f3.row) rfl) ?_);obtain⟨pW,iB,hg,hn⟩:=bL.ez 1;refine .ac (.call (first:=first) (cap:=cap) (vs:=[lF aw]) aD.cl rfl rfl (aD.call _ _ _ _ iB (λb ab=>(hg b ab).2) (bX.get (w2.at a_))) ?_);rintro _ cM ⟨rfl,aY,fr,gX,dZ⟩;have bB:=(hn _ _ _ aY gX dZ).cm;clear iB hg hn gX dZ;generalize bs:(f ((kR f dD (l.take j))) aw).2=cC;replace bs:=bs.symm;cases cC
       case true =>
        replace bs:=bs.symm;refine .z (.not rfl) (have bI:=(bB.ty (A (kR f dD (l.take (j+1)))) 1 rfl (λec bP=>(by rw[Ja (w2.at a_)];exact bP))).cm;.go 6 rfl (.z (.cb (((j+1:Nat):Int)) rfl rfl (by omega)) ?_));have bq:=(bI.dw [0,1]).bO;exact .ae 2 rfl ((b4 _ _ _ ⟨(i:Nat),(j+1:Nat),(cur:List (Int×Int)),rfl,rfl,bq,Yv,(by first|omega|(exfalso;omega))⟩ (by omega)).sub ⟨rfl,rfl,rfl,rfl,trivial⟩)
       replace bs:=bs.symm;refine .z (.not rfl) (have f4:=bB.k 2;.go 6 rfl (.z (.cy kc rfl (λ_ e=>e▸f4.row) rfl) ?_));obtain⟨g1,yl,dp,bF⟩:=bB.C7 (i:=0) rfl;obtain⟨c',asz,asA,e0,ak_,OZ,asB,ak'⟩:=jB.at (P:=Tryz.prog) yl Tryz.underlying173 kc vp (k:=.i64) (n:=((i:Nat):Int)) (i) rfl (by omega);refine .z (.indexAddr rfl rfl e0) (.ac (.ais yl OZ ak' vp NH aw kc rfl rfl rfl λc7 bu fH cf=>have bI:=(bF _ _ _ _ bu cf (.inl rfl)).cm;.go 3 rfl ?_));refine .z (.cb (((i+1:Nat):Int)) rfl rfl (by omega)) (have bq:=(bI.ty (A (kR f dD (l.take (j+1)))) 1 rfl (λec bP=>(by rw[Ja (w2.at a_)];exact bP))).cm;.go 5 rfl (.z (.cb (((j+1:Nat):Int)) rfl rfl (by omega)) ?_));have bM:=(bq.dw [0,1]).bO;exact .ae 2 rfl ((b4 _ _ _ ⟨(i+1:Nat),(j+1:Nat),((cur.set i aw):List (Int×Int)),rfl,rfl,bM,Yv,(by first|omega|(exfalso;omega))⟩ (by omega)).sub ⟨rfl,rfl,rfl,rfl,trivial⟩)
     refine .ae 1 rfl ?_;obtain⟨g1,yl,cA,bF⟩:=a6.C7 (i:=0) rfl;obtain⟨v1,g2,cI,OX,b_⟩:=jB.from (P:=Tryz.prog) yl Tryz.underlying173 kc vp (k:=.i64) (n:=((i:Nat):Int)) (i) rfl (by omega);refine .go 6 rfl (.z (.qX rfl rfl rfl rfl cI) ?_);clear OX b_;refine .ac (.ait yl Tryz.underlying173 kc vp NH (by decide) (k:=.i64) (n:=((i:Nat):Int)) (i:=i) rfl (by omega) cI ((0,0):Int×Int) Tryz.zeroValue172 rfl rfl λbp aA cu cf=>?_);have ba:=(bF _ _ _ _ aA cf (.inl rfl)).bO;obtain⟨g3,ala,dp,cB⟩:=ba.C7 (i:=0) rfl;obtain⟨v2,e0,alb⟩:=jB.upto (P:=Tryz.prog) ala Tryz.underlying173 kc vp (k:=.i64) (n:=((i:Nat):Int)) (i) rfl (by simp only[List.length_append,List.length_take,List.length_replicate];omega);refine .go 5 rfl (.z (.qX rfl rfl rfl rfl e0) (have bo:=(cB _ _ _ _ (Mod.refl _ _) alb (.inl rfl)).bO;.ae 2 rfl ?_));refine aM Tryz.func97 rfl rfl ?_;have bL:=(bo.ty (A (kR f dD l)) 1 rfl (λec bP=>(by rw[List.take_of_length_le (by omega)] at bP;exact bP))).bO;have alc:((cur.take i++List.replicate (cur.length-i) ((0,0):Int×Int)).take i)=o4 f dD l:=(by rw[List.take_append_of_le_length (by rw[List.length_take];omega),List.take_take,Nat.min_self];exact w2.fin (by omega));have bB:=(bL.ty (lE k4 172 2 v2 ((o4 f dD l))) 0 rfl (λec bP=>(by rw[<-alc];exact bP))).bO;have bI:=(bB.aR [] 1 0).cj;obtain⟨cD,cX,cY,cR⟩:=bI.fin;exact ao.mk ⟨cD,cX,cY,cR⟩
theorem ald{w0:World}{F:Nat->Prop}{dd:Nat}{q:List bf}(slot query:Int)(bg:(jQ (R:=az) 176 172 dd q).p F w0)(br:∀b,F b->b<w0.heap.size)(OV:q.length<=100000):
 bG 48 #[ptr dd 0,U slot,U query] w0 (ao λaC ai=>aC=U ((q.length:Int)-((ln q slot query).length:Int))/\Mod F w0 ai/\∃bw,(jQ (R:=az) 176 172 dd (ln q slot query)).p bw ai/\∀b,bw b->b<ai.heap.size/\(F b\/w0.heap.size<=b)):=by
 have dU:=au.ht (R:=az) bg (λb ab=>⟨br b ab,id⟩) (λ_ h=>h.elim);have bt:au az F w0 w0 [jQ 176 172 dd q]:=dU;have hU:=aiH q slot query;refine bQ func48 rfl ntmps48 rfl (.go 2 rfl (.ac (.box [ptr dd 0] rfl rfl λai aK av aG cu aW=>have bb:=(bt.cW av aG aW).bO;.ac (.box [U slot] rfl rfl λaZ aR aA aJ ef bR=>have bc:=(bb.cW aA aJ bR).cm;.ac (.box [U query] rfl rfl λbp bx aO aX fH cT=>have bo:=(bc.cW aO aX cT).bT;have f1:=bo.k 1;.go 4 rfl (.z (.fX vw f1) ?_))))));obtain⟨hW,dx,ds,dc⟩:=bo.ez 0;refine .ac (.aH Js rfl (Ka (w0:=bp) dx (λb ab=>(ds b ab).2)) ?_);rintro _ bZ ⟨rfl,aY⟩;have bL:=bo.ext aY;clear dx ds dc;refine .go 6 rfl (.gg (.eq rfl rfl) (λbs=>?_) λbs=>?_)
 . refine .ae 6 rfl (aM func48 rfl rfl ?_);have bB:=(bL.dw [0]).cj;have MZ:q=[]:=List.eq_nil_of_length_eq_zero aa;subst MZ;obtain⟨cD,cX,cY,cR⟩:=bB.fin;exact ao.mk ⟨rfl,cD,cX,cY,cR⟩
 refine .ae 1 rfl ?_;obtain⟨⟨n0,gx,mF⟩,bB⟩:=bL.fK 0;obtain⟨nB,bI⟩:=bB.and (i:=0) rfl;change au az F w0 bZ [bl [ay dd [n0,.map (some gx)] 176,lE k4 172 2 n0 (q.map bf.pl),jk lF lk gx mF],ay aK [ptr dd 0] 93,ay aR [U slot] 3,ay bx [U query] 3] at bI;change js mF q at nB;have bq:=(bI.u 0 [1,2,3]).n6;refine .ae 3 rfl (eR (λi=>Nat.beq i 6 || Nat.beq i 9) 9 (λan=>du an aK [ptr dd 0] 93/\du an dd [n0,.map (some gx)] 176) mixed λcM bu=>have bM:=bq.ext bu;have f2:=bM.k 0;have f3:=bM.k 3;⟨⟨f2,f3⟩,?_⟩);refine .z rfl (.cd vw rfl (λ_ al=>(al.1.cell 0 _ rfl))) (.z rfl (.cd vw rfl (λ_ al=>(al.1.cell 0 _ rfl))) (.gd 1 rfl (.z rfl (.fieldAddr x6 rfl) (.z rfl (.cd x0 rfl (λ_ al=>(al.2.cell 0 _ rfl))) (.z rfl (.makeFunc (first:=[]) (cap:=[ptr aR 0,ptr aK 0,ptr bx 0]) rfl rfl) ?_)))));have b3:=(bM.cC [4] 1 0 2 3 5).bO;have bS:=(b3.ty (pA (js mF q) (bl [ay aR [U slot] 3,ay aK [ptr dd 0] 93,ay bx [U query] 3,ay dd [n0,.map (some gx)] 176,jk lF lk gx mF])) 1 rfl (λec bP=>⟨nB,bP⟩)).bO;have ck:=(bS.fC (A:=λm:List ((Int×Int)×bf)=>pA (js m q) (bl [ay aR [U slot] 3,ay aK [ptr dd 0] 93,ay bx [U query] 3,ay dd [n0,.map (some gx)] 176,jk lF lk gx m])) (mF) (i:=1) rfl).bO;have cQ:=(ck.aR [] 1 0).cj;have fY:=NJ slot query q [] (by simpa using nB.vq) di;simp only[List.nil_append] at fY;obtain⟨pW,iB,hg,hn⟩:=cQ.ez 0;refine .ac rfl (.aH ai8 rfl (ak5 (first:=[]) (cap:=[ptr aR 0,ptr aK 0,ptr bx 0]) q (ak3 aR aK bx dd gx n0 slot query) iB (λb ab=>(hg b ab).2) fY.1 (by rw[List.length_map];omega)) ?_);rintro DC c7 ⟨b',fr,fg,dZ⟩;rw[fY.2.1,fY.2.2] at fg;have dh:=(hn _ _ _ b' fg dZ).cj;clear iB hg hn dZ;have dH:=(dh.u 0 []).bO;obtain⟨Yw,eB⟩:=dH.fK 0;obtain⟨zE,fc⟩:=eB.and (i:=0) rfl;change au az F w0 c7 [bl [ay aR [U slot] 3,ay aK [ptr dd 0] 93,ay bx [U query] 3,ay dd [n0,.map (some gx)] 176,jk lF lk gx Yw],lE k4 172 2 DC ((ln q slot query).map bf.pl)] at fc;change js Yw (ln q slot query) at zE;have eF:=(fc.u 0 [1]).n6;have f6:=eF.k 2;have f7:=eF.k 4;refine⟨.inr ⟨f6,f7⟩,.gd 1 rfl (.z rfl (.fieldAddr x6 rfl) ?_)⟩;have f8:=eF.Fo (i:=0) rfl;obtain⟨b1,b2,eb⟩:=f8.shape;subst eb;refine .ac rfl (.st x0 f7 λdA cG de=>?_);have ej:=(eF.c_ 4 cG de.c2).n6;refine⟨.inl rfl,.nil (have gw:=(ej.bx [1,2,3] 4 0 5).bT;have fs:=(gw.uw 3 rfl (q:=(ln q slot query)) zE).bT;have f9:=fs.k 1;.go 3 rfl (.z (.fX vw f9) ?_))⟩;obtain⟨zB,qK,po,qi⟩:=fs.ez 3;refine .ac (.aH Js rfl (Ka (w0:=dA) qK (λb ab=>(po b ab).2)) ?_);rintro _ eK ⟨rfl,dg⟩;have gM:=fs.ext dg;clear qK po qi;refine .z (.h0 ((q.length:Int)-(((ln q slot query).length:Nat):Int)) rfl rfl aa) (.ae 2 rfl (aM func48 rfl rfl ?_));have gD:=(gM.dw [3]).cj;obtain⟨cD,cX,cY,cR⟩:=gD.fin;exact ao.mk ⟨(cV aa),cD,cX,cY,cR⟩
end Go.Proofs
namespace Go.Proofs
open Tryz
open Go.aF Go.ak
theorem O0{p:Prop}(h:p:=by first|exact Xb a_ aa|exact Xc fZ aa|(exfalso;omega)):p:=h
theorem Yx{w0:World}{Bt:Value}{ns:List Int}(DD:aq aF.encI w0 (cp w0) Bt ns):
 bG 82 #[Bt] w0 (ao λaC ai=>(∃cv:Bool,cv=(vt ns)/\aC=.bool cv)/\Ext w0 ai):=by
 have ale:=DD.le;have cL:=au.fS w0;refine bQ func82 rfl ntmps82 rfl (.go 8 rfl (.z (.ct underlying57 (DD) rfl) (.ae 3 rfl (dV (I:=λm E W=>∃(i:Nat),E=[(5,Bt),(6,U (ns.length:Int)),(7,U (i:Int))]/\m=ns.length-i/\au az az w0 W []/\(∀z∈ns.take i,0<=z/\z<=2147483647)) ?_ ?_))))
 . refine⟨_,_,⟨(0:Nat),rfl,rfl,cL,DE⟩,bj⟩
 . rintro _ _ ai ⟨i,rfl,rfl,bt,fZ⟩ b4;refine .go 2 rfl (.bh (.lt rfl rfl) (λaG=>?_) λaG=>?_)
   . refine .ae 2 rfl ?_;have f1:=bt.out DD (λ_ _ h=>h);obtain⟨aw,aR,e5,a_,bU,cA,cF⟩:=aq.fv f1 underlying57 aI aF.fz i aV;refine .go 6 rfl (.z (.indexAddr rfl rfl bU) (.z (.dO aI cF) (.go 5 rfl (.bh (.lt rfl rfl) (λaJ=>?_) λaJ=>?_))))
     . exact .ae 10 rfl (aM func82 rfl rfl (ao.mk ⟨⟨_,O0,rfl⟩,bt.mod⟩))
     refine .go 2 rfl (.bh (.gt rfl rfl) (λaX=>?_) λaX=>?_)
     . exact .ae 7 rfl (aM func82 rfl rfl (ao.mk ⟨⟨_,O0,rfl⟩,bt.mod⟩))
     exact .go 6 rfl (.z (.cb ((i+1:Nat):Int) rfl rfl aa) (.ae 2 rfl ((b4 _ _ _ ⟨(i+1:Nat),rfl,rfl,bt,(by first|exact Xd fZ a_ aa|(exfalso;omega))⟩ aa).sub bj)))
   exact .ae 8 rfl (aM func82 rfl rfl (ao.mk ⟨⟨_,O0,rfl⟩,bt.mod⟩))
theorem O1{p:Prop}(h:p:=by first|exact Xe aa|exact Xf aa bd|(exfalso;omega)):p:=h
theorem alf{w0:World}{x:b6}(Ke:x.word.length<=1000000):
 bG 125 #[.agg #[U x.cq,aE x.word]] w0 (ao λaC ai=>(∃cv:Bool,cv=(zg x)/\aC=.bool cv)/\Ext w0 ai):=by
 have cL:=au.fS w0;refine bQ func125 rfl ntmps125 rfl (.go 2 rfl (.ac (.box [U x.cq,aE x.word] rfl rfl λai aK av aG cu aW=>have a1:=(cL.cW av aG aW).cj;.go 4 rfl (have f1:=a1.k 0;.a7 x4 aI f1 (.bh (.ge rfl rfl) (λaJ=>?_) λaJ=>?_)))))
 . refine .go 1 rfl (.a7 x4 aI f1 (.bh (.le rfl rfl) (λaX=>?_) λaX=>?_))
   . refine .go 2 rfl (.a7 Bb dT f1 (.ac (.aH NY rfl (N9 (w0:=ai)  x.word aV) ?_)));rintro _ aZ ⟨⟨bK,bs,rfl⟩,aA⟩;have bb:=a1.ext aA;exact .ae 3 rfl (aM func125 rfl rfl (ao.mk ⟨⟨_,O1,rfl⟩,bb.mod⟩))
   exact .ae 8 rfl (aM func125 rfl rfl (ao.mk ⟨⟨_,O1,rfl⟩,a1.mod⟩))
 exact .ae 12 rfl (aM func125 rfl rfl (ao.mk ⟨⟨_,O1,rfl⟩,a1.mod⟩))
theorem Kf{p:Prop}(h:p:=by first|exact aiK aa|exact aiJ bd aa|(exfalso;omega)):p:=h
theorem Yy{w0:World}(slot:Int)(shard:Int)(asC:bY slot)(zo:bY shard):
 bG 85 #[U slot,U shard] w0 (ao λaC ai=>(∃cv:Bool,cv=(tw slot shard)/\aC=.bool cv)/\Ext w0 ai):=by
 have cL:=au.fS w0;refine bQ func85 rfl ntmps85 rfl (.go 7 rfl (.bh (.ge rfl rfl) (λaG=>?_) λaG=>?_))
 . refine .go 2 rfl (.bh (.lt rfl rfl) (λaJ=>?_) λaJ=>?_)
   . refine .go 3 rfl (.bh (.ge rfl rfl) (λaX=>?_) λaX=>?_)
     . exact .go 3 rfl (.dN (.lt rfl rfl) λbK bs=>.ae 3 rfl (aM func85 rfl rfl (ao.mk ⟨⟨_,Kf,rfl⟩,cL.mod⟩)))
     exact .ae 7 rfl (aM func85 rfl rfl (ao.mk ⟨⟨_,Kf,rfl⟩,cL.mod⟩))
   exact .ae 11 rfl (aM func85 rfl rfl (ao.mk ⟨⟨_,Kf,rfl⟩,cL.mod⟩))
 exact .ae 14 rfl (aM func85 rfl rfl (ao.mk ⟨⟨_,Kf,rfl⟩,cL.mod⟩))
theorem rv{p:Prop}(h:p:=by first|exact aiL bd|exact aiM bd|exact aiN bd|exact aiO bd|exact aiP aa|exact aiQ bd bd bd bd aa bd|(exfalso;omega)):p:=h
theorem Kg{p:Prop}(h:p:=by assumption):p:=h
theorem alg{w0:World}{m:bf}(w3:bf.Ok m)(F8:m.text.length<=1000000)(w4:m.after.word.length<=1000000):
 bG 83 #[.agg #[U m.slot,U m.query,U m.shard,U m.seq,U m.f',aE m.text,U m.k,U m.batch,.bool m.first,U m.after.cq,aE m.after.word]] w0 (ao λaC ai=>(∃cv:Bool,cv=(nV m)/\aC=.bool cv)/\Ext w0 ai):=by
 have yk:=w3.slot;have OW:=w3.shard;have alh:=w3.k;have ali:=w3.batch;have cL:=au.fS w0;refine bQ func83 rfl ntmps83 rfl (.go 2 rfl (.ac (.box (eO m) rfl rfl λai aK av aG cu aW=>?_)));have a1:=(cL.cW av aG aW).cj;refine .go 4 rfl (.z (.fieldAddr Bf rfl) (have f1:=a1.k 0;.z (.cy gB rfl (λ_ e=>e▸(f1.part 9 2 dj)) rfl) ?_));refine .ac (.aH ajc rfl (alf (w0:=ai) (x:=m.after)  aV) ?_);rintro _ aZ ⟨⟨aR,aJ,rfl⟩,aA⟩;have bb:=a1.ext aA;refine .go 5 rfl (have f2:=bb.k 0;.a7 Jo fj f2 ?_);generalize aX:m.first=O2;replace aX:=aX.symm;refine .ae 1 rfl ?_;cases O2
 case true =>
  replace aX:=aX.symm;refine .go 2 rfl (.z (.fieldAddr Bf rfl) (.z (.cy gB rfl (λ_ e=>e▸(f2.part 9 2 dj)) rfl) ?_));refine .z (.build (vs:=#[]) (v:=.agg #[ad,aE []]) rfl (λ_=>by kernel_rfl)) (.dN (.Ct c0 (NT m.after (b6.mk 0 [])) rfl rfl) λbx bs=>have cH:bx=wH m:=(by first|exact NM Kg bs|exact NN Kg bs);.go 6 rfl ?_);cases bx
  case true =>
   replace cH:=cH.symm;refine .a7 tA aI f2 (.a7 rk aI f2 (.ac (.aH XB rfl (Yy (w0:=aZ)  (m.slot) (m.shard) cK cK) ?_)));rintro _ bp ⟨⟨bK,cr,rfl⟩,aO⟩;have a6:=bb.ext aO;refine .go 2 rfl ?_;cases bK
   case true =>
    replace cr:=cr.symm;have f3:=a6.k 0;refine .a7 sK aI f3 (.a7 x5 aI f3 (.a7 Bc aI f3 ?_));refine .ac (.buildSlice [(U m.query:Value),(U m.seq:Value),(U m.f':Value)] underlying57 aI rfl rfl rfl b5 λbZ cC aY dt ef bR=>have cA:=aq.eD (enc:=aF.encI) bR ([m.query,m.seq,m.f']:List Int) 3 rfl rfl eU;have ba:=(a6.hI aY dt ef cA).bO;have f4:=ba.gh 1 0;.ac (.aH XA rfl (Yx (w0:=bZ) (ns:=[m.query,m.seq,m.f'])  f4) ?_));rintro _ cM ⟨⟨c',dy,rfl⟩,bu⟩;have bo:=ba.ext bu;refine .go 2 rfl ?_;cases c'
    case true =>
     replace dy:=dy.symm;have f5:=bo.k 0;refine .a7 Db dT f5 (.ac (.aH N1 rfl (N_ (w0:=cM)  m.text aV) ?_));rintro _ c7 ⟨⟨hb,e1,rfl⟩,b'⟩;have bL:=bo.ext b';refine .go 2 rfl ?_;cases hb
     case true =>
      replace e1:=e1.symm;have f6:=bL.k 0;refine .a7 Bd aI f6 (.bh (.ge rfl rfl) (λgq=>?_) λgq=>?_)
      . refine .go 2 rfl (.a7 Bd aI f6 (.bh (.le rfl rfl) (λnx=>?_) λnx=>?_))
        . refine .go 2 rfl (.a7 Be aI f6 (.bh (.ge rfl rfl) (λoQ=>?_) λoQ=>?_))
          . refine .go 2 rfl (.a7 Be aI f6 (.dN (.le rfl rfl) λny FK=>?_));exact .ae 3 rfl (aM func83 rfl rfl (ao.mk ⟨⟨_,rv,rfl⟩,bL.mod⟩))
          exact .ae 8 rfl (aM func83 rfl rfl (ao.mk ⟨⟨_,rv,rfl⟩,bL.mod⟩))
        exact .ae 13 rfl (aM func83 rfl rfl (ao.mk ⟨⟨_,rv,rfl⟩,bL.mod⟩))
      exact .ae 18 rfl (aM func83 rfl rfl (ao.mk ⟨⟨_,rv,rfl⟩,bL.mod⟩))
     replace e1:=e1.symm;exact .ae 21 rfl (aM func83 rfl rfl (ao.mk ⟨⟨_,rv,rfl⟩,bL.mod⟩))
    replace dy:=dy.symm;exact .ae 26 rfl (aM func83 rfl rfl (ao.mk ⟨⟨_,rv,rfl⟩,bo.mod⟩))
   replace cr:=cr.symm;exact .ae 36 rfl (aM func83 rfl rfl (ao.mk ⟨⟨_,rv,rfl⟩,a6.mod⟩))
  replace cH:=cH.symm;exact .ae 43 rfl (aM func83 rfl rfl (ao.mk ⟨⟨_,rv,rfl⟩,bb.mod⟩))
 replace aX:=aX.symm;have bs:aR=wH m:=(by first|exact NM Kg aJ|exact NN Kg aJ);refine .go 6 rfl ?_;cases aR
 case true =>
  replace bs:=bs.symm;refine .a7 tA aI f2 (.a7 rk aI f2 (.ac (.aH XB rfl (Yy (w0:=aZ)  (m.slot) (m.shard) cK cK) ?_)));rintro _ bp ⟨⟨bx,cH,rfl⟩,aO⟩;have a6:=bb.ext aO;refine .go 2 rfl ?_;cases bx
  case true =>
   replace cH:=cH.symm;have f3:=a6.k 0;refine .a7 sK aI f3 (.a7 x5 aI f3 (.a7 Bc aI f3 ?_));refine .ac (.buildSlice [(U m.query:Value),(U m.seq:Value),(U m.f':Value)] underlying57 aI rfl rfl rfl b5 λbZ bK aY cr ef bR=>have cA:=aq.eD (enc:=aF.encI) bR ([m.query,m.seq,m.f']:List Int) 3 rfl rfl eU;have ba:=(a6.hI aY cr ef cA).bO;have f4:=ba.gh 1 0;.ac (.aH XA rfl (Yx (w0:=bZ) (ns:=[m.query,m.seq,m.f'])  f4) ?_));rintro _ cM ⟨⟨cC,dt,rfl⟩,bu⟩;have bo:=ba.ext bu;refine .go 2 rfl ?_;cases cC
   case true =>
    replace dt:=dt.symm;have f5:=bo.k 0;refine .a7 Db dT f5 (.ac (.aH N1 rfl (N_ (w0:=cM)  m.text aV) ?_));rintro _ c7 ⟨⟨c',dy,rfl⟩,b'⟩;have bL:=bo.ext b';refine .go 2 rfl ?_;cases c'
    case true =>
     replace dy:=dy.symm;have f6:=bL.k 0;refine .a7 Bd aI f6 (.bh (.ge rfl rfl) (λe1=>?_) λe1=>?_)
     . refine .go 2 rfl (.a7 Bd aI f6 (.bh (.le rfl rfl) (λgq=>?_) λgq=>?_))
       . refine .go 2 rfl (.a7 Be aI f6 (.bh (.ge rfl rfl) (λnx=>?_) λnx=>?_))
         . refine .go 2 rfl (.a7 Be aI f6 (.dN (.le rfl rfl) λkz oQ=>?_));exact .ae 3 rfl (aM func83 rfl rfl (ao.mk ⟨⟨_,rv,rfl⟩,bL.mod⟩))
         exact .ae 8 rfl (aM func83 rfl rfl (ao.mk ⟨⟨_,rv,rfl⟩,bL.mod⟩))
       exact .ae 13 rfl (aM func83 rfl rfl (ao.mk ⟨⟨_,rv,rfl⟩,bL.mod⟩))
     exact .ae 18 rfl (aM func83 rfl rfl (ao.mk ⟨⟨_,rv,rfl⟩,bL.mod⟩))
    replace dy:=dy.symm;exact .ae 21 rfl (aM func83 rfl rfl (ao.mk ⟨⟨_,rv,rfl⟩,bL.mod⟩))
   replace dt:=dt.symm;exact .ae 26 rfl (aM func83 rfl rfl (ao.mk ⟨⟨_,rv,rfl⟩,bo.mod⟩))
  replace cH:=cH.symm;exact .ae 36 rfl (aM func83 rfl rfl (ao.mk ⟨⟨_,rv,rfl⟩,a6.mod⟩))
 replace bs:=bs.symm;exact .ae 43 rfl (aM func83 rfl rfl (ao.mk ⟨⟨_,rv,rfl⟩,bb.mod⟩))
end Go.Proofs
namespace Go.Proofs
open Tryz
open Go.aF Go.ak
theorem O3{w0:World}(k:Int)(ym:bY k)(hk:0<=k/\k<=4):
 bG 177 #[U k] w0 (ao λaC ai=>(∃cv:Bool,cv=true/\aC=.bool cv)/\Ext w0 ai):=by
 have bA:=ew w0;exact bQ func177 rfl ntmps177 rfl (.go 7 rfl (.qE (.ge rfl rfl) (by exact decide_eq_true aa) (.go 2 rfl (.qE (.le rfl rfl) (by exact decide_eq_true aa) (.ae 3 rfl (aM func177 rfl rfl (ao.mk ⟨⟨_,dz,rfl⟩,bA⟩)))))))
theorem ho{p:Prop}(h:p:=by omega):p:=h
theorem F9{p:Prop}(h:p:=by first|exact zE.trans (ag1 a_ aa)|(rw[O4];exact ag4 a_ aa)|(exfalso;omega)):p:=h
theorem DF{p:Prop}(h:p:=by first|omega|(exfalso;omega)):p:=h
theorem Yz{w0:World}{mn:Value}{q:List Int}(k:Int){ky:Value}{s:List Pos}(Bu:aq iM w0 (cp w0) mn q)(ym:bY k)(ow:aq lC w0 (cp w0) ky s)(hk:0<=k/\k<=4)(dB:q.length<=1000)(hU:s.length<=1000):
 bG 178 #[mn,U k,ky] w0 (ao λaC ai=>(∃dn,Acc aF.encI 3 1 ai dn aC (gv q.length (dY q.length k s))/\(dn=0\/w0.heap.size<dn))/\Ext w0 ai):=by
 have bA:=ew w0;refine bQ func178 rfl ntmps178 rfl (.go 7 rfl (.z (.ct underlying179 (Bu) rfl) ?_));refine .z (.cb ((q.length+1:Nat):Int) rfl rfl ho) (.ac (.makeSlice (enc:=aF.encI) (q.length+1) (0:Int) underlying57 aI b5 rfl aF.fz rfl rfl ho ho ho eU λv1 g1 ai av b_ cu cf=>have f1:=Bu.ext av;have f2:=ow.ext av;have bJ:=bA.ext av;have bU:(List.replicate (q.length+1) (0:Int)).length=q.length+1:=List.length_replicate;.go 6 rfl ?_));refine .z (.ct underlying57 (cf.b9) rfl) (.ae 3 rfl (dV (I:=λm E W=>∃(i:Nat) (row:List Int),E=[(0,mn),(1,U k),(2,ky),(7,v1),(17,U (((List.replicate (q.length+1) (0:Int)).length:Nat):Int)),(18,U (i:Int))]/\m=q.length+1-i/\Ext w0 W/\ai.heap.size<=W.heap.size/\aq iM W (cp w0) mn q/\aq lC W (cp w0) ky s/\Acc aF.encI 3 1 W g1 v1 row/\(row=gv q.length λj=>if j<i then k+1 else 0)/\(row.length=q.length+1)) ?_ ?_))
 . refine⟨_,_,⟨(0:Nat),((List.replicate (q.length+1) (0:Int)):List Int),rfl,rfl,bJ,Nat.le_refl _,f1,f2,cf,(by exact agX _ _),di⟩,bj⟩
 . rintro _ _ aZ ⟨i,row,rfl,rfl,bN,i',f3,f4,f5,rT,oS⟩ b4;refine .go 2 rfl (.bh (.lt rfl rfl) (λaG=>?_) λaG=>?_)
   . refine .go 15 rfl (.z (.cb (k+1) rfl rfl aa) ?_);obtain⟨cI,aw,a_⟩:=Acc.at f5 underlying57 aI (k:=.i64) (n:=(i:Int)) (i) ho (by first|assumption|omega|(simp;done));refine .z (.indexAddr rfl rfl cI) (have dp:=f5.lt;.ac (.oI f5 aF.fz (i:=i) (o:=0) a_ (k+1) aI rfl ho rfl rfl rfl rfl b5 yh λbp aA ef dW=>have f6:=f3.bD aA aa;have f7:=f4.bD aA aa;have cn:=Ext.hh bN aA aa;have nw:=aA.size;have cA:(row.set i (k+1)).length=row.length:=List.length_set;.go 3 rfl ?_));exact .z (.cb ((i+1:Nat):Int) rfl rfl ho) (.ae 2 rfl ((b4 _ _ _ ⟨(i+1:Nat),((row.set i (k+1)):List Int),rfl,rfl,cn,ho,f6,f7,dW,(by first|exact agY rT ho|(exfalso;omega)),be⟩ ho).sub bj))
   refine .go 8 rfl (.z (.ct underlying225 (f4) rfl) (.ae 3 rfl ?_));refine dV (I:=λm E W=>∃(j:Nat) (yn:List Int),E=[(0,mn),(1,U k),(7,v1),(27,ky),(28,U (s.length:Int)),(29,U (j:Int))]/\m=s.length-j/\Ext w0 W/\aZ.heap.size<=W.heap.size/\aq iM W (cp w0) mn q/\Acc aF.encI 3 1 W g1 v1 yn/\aq lC W (cp w0) ky s/\(yn=gv q.length (dY q.length k (s.take j)))/\(yn.length=q.length+1)) ?_ ?_
   . refine⟨_,_,⟨(0:Nat),(row:List Int),rfl,rfl,bN,Nat.le_refl _,f3,f5,f4,(by first|exact agZ rT ho),ho⟩,bj⟩
   . rintro _ _ bp ⟨j,yn,rfl,rfl,cn,nw,f6,f7,f8,zE,asD⟩ fP;refine .go 2 rfl (.bh (.lt rfl rfl) (λaJ=>?_) λaJ=>?_)
     . refine .ae 2 rfl ?_;obtain⟨aw,bx,e5,a_,cI,cA,jt,cF⟩:=aq.fO f8 underlying225 Ba V5 (k:=.i64) (n:=(j:Int)) (j) ho aV;refine .go 6 rfl (.z (.indexAddr rfl rfl cI) (.z (.cy Ba rfl (λ_ e=>e▸cF) rfl) ?_));refine .ac (.alloc Ba λbZ bK aA aX ef aW=>have dp:=f7.lt;have f9:=f6.ext aA;have f10:=f7.ext aA;have f11:=f8.ext aA;have eL:=cn.ext aA;.ac (.st Ba aW λcM aO bR=>?_));replace bR:du cM bK [U aw.at_,U aw.cq] 268:=bR;have f12:=f9.bD aO aa;have f13:=f10.bD aO aa;have f14:=f11.bD aO aa;have fL:=Ext.hh eL aO aa;have wP:=aO.size;refine .go 4 rfl (.a7 Dd aI bR (.bh (.lt rfl rfl) (λbs=>?_) λbs=>?_))
       . refine .go 22 rfl (.z (.cb ((j+1:Nat):Int) rfl rfl ho) (.ae 2 rfl ?_));exact(fP _ _ _ ⟨(j+1:Nat),(yn:List Int),rfl,rfl,fL,ho,f12,f13,f14,F9,DF⟩ ho).sub bj
       refine .go 1 rfl (.a7 Dd aI bR (.go 1 rfl ?_));refine .z (.ct underlying179 (f12) rfl) (.bh (.gt rfl rfl) (λcH=>?_) λcH=>?_)
       . refine .go 16 rfl (.z (.cb ((j+1:Nat):Int) rfl rfl ho) (.ae 2 rfl ?_));exact(fP _ _ _ ⟨(j+1:Nat),(yn:List Int),rfl,rfl,fL,ho,f12,f13,f14,F9,DF⟩ ho).sub bj
       refine .go 2 rfl (.a7 NS aI bR (.bh (.lt rfl rfl) (λcr=>?_) λcr=>?_))
       . refine .go 11 rfl (.z (.cb ((j+1:Nat):Int) rfl rfl ho) (.ae 2 rfl ?_));exact(fP _ _ _ ⟨(j+1:Nat),(yn:List Int),rfl,rfl,fL,ho,f12,f13,f14,F9,DF⟩ ho).sub bj
       refine .go 2 rfl (.a7 NS aI bR (.go 1 rfl ?_));refine .bh (.gt rfl rfl) (λdt=>?_) λdt=>?_
       . refine .go 5 rfl (.z (.cb ((j+1:Nat):Int) rfl rfl ho) (.ae 2 rfl ?_));exact(fP _ _ _ ⟨(j+1:Nat),(yn:List Int),rfl,rfl,fL,ho,f12,f13,f14,F9,DF⟩ ho).sub bj
       refine .go 6 rfl (.a7 Dd aI bR (.go 1 rfl ?_));refine .z (.h0 (aw.at_-k) rfl rfl ho) (.z (.max rfl rfl) (.ae 3 rfl ?_));refine dV (I:=λm E W=>∃(i:Int) (zF:List Int),E=[(0,mn),(1,U k),(7,v1),(10,ptr bK 0),(11,U i),(27,ky),(28,U (s.length:Int)),(29,U (j:Int))]/\m=(3000-i).toNat/\Ext w0 W/\cM.heap.size<=W.heap.size/\aq iM W (cp w0) mn q/\Acc aF.encI 3 1 W g1 v1 zF/\du W bK [U aw.at_,U aw.cq] 268/\aq lC W (cp w0) ky s/\bK+1≠g1/\(zF=gv q.length (ts q.length k s j i))/\(zF.length=q.length+1)/\(0<=i/\i<=3000/\aw.at_-k<=i)) ?_ ?_
       . refine⟨_,_,⟨((max (aw.at_-k) 0):Int),(yn:List Int),rfl,rfl,fL,Nat.le_refl _,f12,f13,bR,f14,ho,(by rw[zE];exact ag2 a_ rfl),ho,ho⟩,bj⟩
       . rintro _ _ c7 ⟨i,zF,rfl,rfl,iG,zv,f15,f16,f17,f18,nj,O4,asE,FV⟩ O5;refine .go 4 rfl (.a7 Dd aI f17 (.go 1 rfl ?_));refine .z (.cb (aw.at_+k) rfl rfl ho) (.go 1 rfl (.z (.ct underlying179 (f15) rfl) ?_));refine .z (.min rfl rfl) (.bh (.le rfl rfl) (λdy=>?_) λdy=>?_)
         . refine .ae 5 rfl (eR (λi=>Nat.beq i 20) 20 (λan=>Mod (ca 0) c7 an) mixed λdA aY=>have f19:=f15.ext aY;have f20:=f16.ext aY;have f21:=f17.ext aY;have f22:=f18.ext aY;have ko:=iG.ext aY;have Dl:=aY.size;have lq:Mod (ca 0) c7 dA:=Mod.ga aY;⟨lq,?_⟩);obtain⟨x2,kz,hL,cJ,e0,ja,qd,ey⟩:=aq.fO f16.b9 underlying57 aI aF.fz (k:=.i64) (n:=i) ((i).toNat) ho aV;refine .gd 4 rfl (.z rfl (.indexAddr rfl rfl e0) (have O6:=pc (O4▸cJ);.z rfl (.cd aI rfl (λ_ al=>ey.bD al ho)) ?_));refine .z rfl (.fieldAddr NS rfl) (.z rfl (.cd aI rfl (λ_ al=>(f17.cell 1 _ rfl).bD al ho)) (.gd 1 rfl ?_));refine .z rfl (.fieldAddr Dd rfl) (.z rfl (.cd aI rfl (λ_ al=>(f17.cell 0 _ rfl).bD al ho)) (.z rfl (.h0 (i-aw.at_) rfl rfl ho) ?_));refine .z rfl (.fieldAddr Dd rfl) (.z rfl (.cd aI rfl (λ_ al=>(f17.cell 0 _ rfl).bD al ho)) (.gd 1 rfl ?_));refine .z rfl (.h0 (aw.at_-i) rfl rfl ho) (.z rfl (.max rfl rfl) (.z rfl (.cb (aw.cq+(max (i-aw.at_) (aw.at_-i))) rfl rfl ho) ?_));refine .z rfl (.min rfl rfl) ?_;obtain⟨h_,gC,h5⟩:=Acc.at f16 underlying57 aI (k:=.i64) (n:=i) ((i).toNat) ho (by first|assumption|omega|(simp;done));refine .z rfl (.indexAddr rfl rfl h_) (.ac rfl (.oI f20 aF.fz (i:=((i).toNat)) (o:=0) h5 (min x2 (aw.cq+(max (i-aw.at_) (aw.at_-i)))) aI rfl ho rfl rfl rfl rfl b5 yh λeK bu hc dW=>have f23:=f19.bD bu aa;have f24:=f21.bD bu aa;have f25:=f22.bD bu aa;have nX:=Ext.hh ko bu aa;⟨.inl rfl,?_⟩));have iy:(zF.set ((i).toNat) (min x2 (aw.cq+(max (i-aw.at_) (aw.at_-i))))).length=zF.length:=List.length_set;refine .nil (.go 3 rfl (.z (.cb (i+1) rfl rfl ho) ?_));exact .ae 2 rfl ((O5 _ _ _ ⟨((i+1):Int),((zF.set ((i).toNat) (min x2 (aw.cq+(max (i-aw.at_) (aw.at_-i))))):List Int),rfl,rfl,nX,ho,f23,dW,f24,f25,ho,(by first|(subst O4;exact ag3 a_ ho ho ho ho ho cJ)|(exfalso;omega)),be,DF⟩ ho).sub bj)
         refine .go 5 rfl (.z (.cb ((j+1:Nat):Int) rfl rfl ho) (.ae 2 rfl ?_));exact(fP _ _ _ ⟨(j+1:Nat),(zF:List Int),rfl,rfl,iG,ho,f15,f16,f18,F9,DF⟩ ho).sub bj
     exact .ae 9 rfl (aM func178 rfl rfl (ao.mk ⟨⟨_,Acc.cast f7 (by first|exact ag5 zE ho|(exfalso;omega)),by omega⟩,cn⟩))
theorem alj{w0:World}{ky:Value}{s:List Int}(ow:aq aF.encI w0 (cp w0) ky s)(FD:s.length<=1000000):
 bG 180 #[ky] w0 (ao λaC ai=>(∃dn,Acc aF.encI 3 1 ai dn aC (s)/\(dn=0\/w0.heap.size<dn))/\Ext w0 ai):=by
 have bA:=ew w0;refine bQ func180 rfl ntmps180 rfl ?_;obtain⟨b1,b2,eb,cu⟩:=aq.isNil (ow);refine .go 8 rfl ?_;subst eb;refine .dN (.Mg underlying57 rfl rfl) λaK aG=>.ae 1 rfl ?_
 cases aK
 case true =>
  replace aG:=aG.symm;replace cu:=cu aG;exact .ae 5 rfl (aM func180 rfl rfl (ao.mk ⟨⟨0,Acc.cast Acc.nil Df,.inl rfl⟩,bA⟩))
 replace aG:=aG.symm;exact .go 4 rfl (.ac (.buildSlice [] underlying57 aI rfl rfl rfl b5 λai aR av aJ ef aW=>have f1:=ow.ext av;have bJ:=bA.ext av;have cA:=Acc.eD (enc:=aF.encI) aW ([]:List Int) 0 rfl aF.fz rfl eU;.go 1 rfl (.ac (.append cA underlying57 aI rfl aF.fz aF.xr rfl rfl (f1) ol fG λv1 g1 aZ cf aA b_ fH=>have bN:=Ext.hh bJ aA aa;.ae 2 rfl (aM func180 rfl rfl (ao.mk ⟨⟨_,Acc.cast cf Df,by omega⟩,bN⟩))))))
theorem kL{p:Prop}(h:p:=by omega):p:=h
theorem O7{p:Prop}(h:p:=by first|exact ahf F_ aa aa|exact ahh F_ aa aa O6.1 Bn.1 bd bd|exact ahi F_ aa aa O6.1 Bn.1 bd|(exfalso;omega)):p:=h
theorem O8{p:Prop}(h:p:=by first|exact ag7 bk aa|exact ag8 bk (V7 F_ (λx=>(Ga x).1) aa aa)|exact ag9 bk aa (V7 F_ (λx=>(Ga x).1) aa aa) Bn.1|(exfalso;omega)):p:=h
theorem DG{p:Prop}(h:p:=by first|omega|(exfalso;omega)):p:=h
theorem alk{w0:World}{n:Nat}{f:Nat->Int}{uK:Value}{row:List Int}(k:Int)(YA:aq aF.encI w0 (cp w0) uK row)(ym:bY k)(hk:0<=k/\k<=4)(rT:row=gv n f)(Ga:∀x,0<=f x/\f x<=k+1)(aN:n<=1000):
 bG 181 #[uK,U k] w0 (ao λaC ai=>(∃dn,Acc lC 268 2 ai dn aC (fQ (n+1) k f)/\(dn=0\/w0.heap.size<dn))/\Ext w0 ai):=by
 have bA:=ew w0;have oS:row.length=n+1:=(by rw[rT];exact xQ n f);refine bQ func181 rfl ntmps181 rfl (.go 12 rfl (.z (.ct underlying57 (YA) rfl) (.ae 3 rfl (dV (I:=λm E W=>∃(eQ:Value) (gi:Nat) (l:List Pos) (j:Nat),E=[(0,uK),(1,U k),(5,eQ),(10,uK),(11,U (row.length:Int)),(12,U (j:Int))]/\m=row.length-j/\Ext w0 W/\w0.heap.size<=W.heap.size/\Acc lC 268 2 W gi eQ l/\(gi=0\/w0.heap.size<gi)/\aq aF.encI W (cp w0) uK row/\(l=stateT (n+1) k f j)/\(j<=row.length)/\(l.length<=j)) ?_ ?_))))
 . refine⟨_,_,⟨(.slice none 0 0:Value),(0:Nat),([]:List Pos),(0:Nat),rfl,rfl,bA,Nat.le_refl _,Acc.nil,kL,YA,dz,kL,sP⟩,bj⟩
 . rintro _ _ ai ⟨eQ,gi,l,j,rfl,rfl,bJ,hl,cf,b_,f1,bk,J3,mv⟩ b4;refine .go 2 rfl (.bh (.lt rfl rfl) (λaG=>?_) λaG=>?_)
   . refine .ae 2 rfl ?_;obtain⟨aw,aR,e5,a_,bU,cA,jt,cF⟩:=aq.fO f1 underlying57 aI aF.fz (k:=.i64) (n:=(j:Int)) (j) kL aV;refine .go 7 rfl (.z (.indexAddr rfl rfl bU) (have Bn:=pc (rT▸a_);have YB:=Ga j;.z (.dO aI cF) (.go 8 rfl (.bh (.gt rfl rfl) (λaJ=>?_) λaJ=>?_))))
     . exact .go 4 rfl (.z (.cb ((j+1:Nat):Int) rfl rfl kL) (.ae 2 rfl ((b4 _ _ _ ⟨(eQ:Value),(gi:Nat),(l:List Pos),(j+1:Nat),rfl,rfl,bJ,kL,cf,kL,f1,O8,DG,am⟩ kL).sub bj)))
     refine .go 12 rfl (.z (.h0 ((j:Int)-k) rfl rfl kL) (.z (.max rfl rfl) (.ae 3 rfl (dV (I:=λm E W=>∃(b:Bool) (i:Int),E=[(0,uK),(1,U k),(5,eQ),(6,U (j:Int)),(7,U aw),(8,.bool b),(9,U i),(10,uK),(11,U (row.length:Int)),(12,U (j:Int))]/\m=(3000-i).toNat/\Ext w0 W/\ai.heap.size<=W.heap.size/\aq aF.encI W (cp w0) uK row/\Acc lC 268 2 W gi eQ l/\(b=ra (n+1) f j i)/\(0<=i/\i<=3000)) ?_ ?_))))
     . refine⟨_,_,⟨(false:Bool),((max ((j:Int)-k) 0):Int),rfl,rfl,bJ,Nat.le_refl _,f1,cf,(by exact ag6 (λx=>(Ga x).1) kL rfl),kL⟩,bj⟩
     . rintro _ _ aZ ⟨b,i,rfl,rfl,bN,i',f2,f3,F_,FV⟩ fP;refine .go 6 rfl (.z (.cb ((j:Int)+k) rfl rfl kL) (.go 1 rfl (.z (.ct underlying57 (f2) rfl) (.z (.h0 ((row.length:Int)-1) rfl rfl kL) (.z (.min rfl rfl) (.bh (.le rfl rfl) (λaX=>?_) λaX=>?_))))))
       . refine .go 8 rfl ?_;cases b
         case true =>
          exact .go 28 rfl (.z (.cb (i+1) rfl rfl kL) (.ae 2 rfl ((fP _ _ _ ⟨(true:Bool),((i+1):Int),rfl,rfl,bN,kL,f2,f3,O7,DG⟩ kL).sub bj)))
         obtain⟨x2,cC,hL,cJ,cI,dp,qd,ey⟩:=aq.fO f2 underlying57 aI aF.fz (k:=.i64) (n:=i) ((i).toNat) kL aV;refine .go 2 rfl (.z (.indexAddr rfl rfl cI) (have O6:=pc (rT▸cJ);have asF:=Ga i.toNat;.z (.dO aI ey) (.go 1 rfl (.bh (.lt rfl rfl) (λbs=>?_) λbs=>?_))))
         . refine .go 3 rfl (.z (.h0 (i-(j:Int)) rfl rfl kL) (.go 2 rfl (.z (.h0 ((j:Int)-i) rfl rfl kL) (.z (.max rfl rfl) ?_))));obtain⟨gC,hb,pP,h5,e0,fa,DH,jE⟩:=aq.fO f2 underlying57 aI aF.fz (k:=.i64) (n:=i) ((i).toNat) kL aV;obtain rfl:x2=gC:=Option.some.inj (cJ.symm.trans h5);exact .go 3 rfl (.z (.indexAddr rfl rfl e0) (.z (.dO aI jE) (.z (.h0 (aw-x2) rfl rfl kL) (.dN (.le rfl rfl) λhf cH=>.go 7 rfl (.z (.cb (i+1) rfl rfl kL) (.ae 2 rfl ((fP _ _ _ ⟨(hf:Bool),((i+1):Int),rfl,rfl,bN,kL,f2,f3,O7,DG⟩ kL).sub bj)))))))
         exact .go 22 rfl (.z (.cb (i+1) rfl rfl aa) (.ae 2 rfl ((fP _ _ _ ⟨(false:Bool),((i+1):Int),rfl,rfl,bN,kL,f2,f3,O7,DG⟩ kL).sub bj)))
       refine .go 6 rfl ?_;cases b
       case true =>
        exact .z (.not rfl) (.go 5 rfl (.z (.cb ((j+1:Nat):Int) rfl rfl kL) (.ae 2 rfl ((b4 _ _ _ ⟨(eQ:Value),(gi:Nat),(l:List Pos),(j+1:Nat),rfl,rfl,bN,kL,f3,kL,f2,O8,DG,am⟩ kL).sub bj))))
       exact .z (.not rfl) (.go 6 rfl (.z (.build (vs:=#[(0,(U (j:Int):Value)),(1,(U aw:Value))]) (v:=.agg #[U (j:Int),U aw]) rfl (λ_=>by kernel_rfl)) (.ac (.buildSlice [(.agg #[U (j:Int),U aw]:Value)] underlying225 Ba rfl rfl rfl b5 λbp cC av bs cu aW=>have dp:=f3.lt;have f4:=f2.ext av;have f5:=f3.ext av;have cn:=bN.ext av;have fa:=aq.eD (enc:=lC) aW ([(Pos.mk (j:Int) aw)]:List Pos) 1 rfl rfl eU;.ac (.append f5 underlying225 Ba rfl V5 agW rfl rfl (fa) ol fG λv1 g1 bZ dW aA eE ef=>have f6:=f4.bD aA aa;have eL:=Ext.hh cn aA aa;.go 4 rfl (.z (.cb ((j+1:Nat):Int) rfl rfl kL) (.ae 2 rfl ((b4 _ _ _ ⟨(v1:Value),(g1:Nat),((l++[(Pos.mk (j:Int) aw)]):List Pos),(j+1:Nat),rfl,rfl,eL,kL,dW,kL,f6,O8,DG,am⟩ kL).sub bj))))))))
   exact .ae 9 rfl (aM func181 rfl rfl (ao.mk ⟨⟨_,Acc.cast cf (by first|(rw[bk,show j=n+1 from by omega];rfl)|(exfalso;omega)),by omega⟩,bJ⟩))
theorem alm{w0:World}{mn:Value}{q:List Int}(k:Int)(Bu:aq iM w0 (cp w0) mn q)(ym:bY k)(hk:0<=k/\k<=4):
 bG 142 #[mn,U k] w0 (ao λaC ai=>aq lC ai (dr w0.heap.size ai.heap.size) aC ([Pos.mk 0 0])/\Ext w0 ai):=by
 have bA:=ew w0;refine bQ func142 rfl ntmps142 rfl (.go 8 rfl (.ac (.aH N3 rfl (O3 (w0:=w0)  (k) cK aV) ?_)));rintro _ ai ⟨⟨_,rfl,rfl⟩,av⟩;have bJ:=bA.ext av;have hl:=av.size;exact .z (.not rfl) (.go 5 rfl (.z (.build (vs:=#[]) (v:=.agg #[ad,ad]) rfl (λ_=>by kernel_rfl)) (.ac (.buildSlice [(.agg #[ad,ad]:Value)] underlying225 Ba rfl rfl rfl b5 λaZ aK aA aG cu aW=>have bN:=bJ.ext aA;have cA:=aq.eD (enc:=lC) aW ([(Pos.mk 0 0)]:List Pos) 1 rfl rfl eU;.ae 2 rfl (aM func142 rfl rfl (ao.mk ⟨(aq.cast (cA.cw aa aa) dz),bN⟩))))))
theorem jW{p:Prop}(h:p:=by omega):p:=h
theorem YC{p:Prop}(h:p:=by first|(subst Kh;first|exact V8 aa k5 tI iS (by rw[if_pos (by rw[h5];congr 1)];omega)|exact V8 aa k5 tI iS (by rw[if_neg (by rw[h5];intro e;cases e;omega)]))|(exfalso;omega)):p:=h
theorem Ki{w0:World}{mn:Value}{q:List Int}(k:Int){ky:Value}{s:List Pos}(r:Int)(Bu:aq iM w0 (cp w0) mn q)(ym:bY k)(ow:aq lC w0 (cp w0) ky s)(YD:-2147483648<=r/\r<=2147483647)(hk:0<=k/\k<=4)(dB:q.length<=1000)(hU:s.length<=1000):
 bG 146 #[mn,U k,ky,.int .i32 r] w0 (ao λaC ai=>(∃dn,Acc lC 268 2 ai dn aC (fQ (q.length+1) k (fJ k q (dY q.length k s) r))/\(dn=0\/w0.heap.size<dn))/\Ext w0 ai):=by
 have bA:=ew w0;refine bQ func146 rfl ntmps146 rfl (.go 8 rfl (.ac (.aH N3 rfl (O3 (w0:=w0)  (k) cK aV) ?_)));rintro _ ai ⟨⟨_,rfl,rfl⟩,av⟩;have f1:=Bu.ext av;have f2:=ow.ext av;have bJ:=bA.ext av;have hl:=av.size;refine .z (.not rfl) (.go 8 rfl (.ac (.aH XK rfl (Yz (w0:=ai) (q:=q) (s:=s) (k) ((f1).cw (Nat.zero_le _) jW) cK ((f2).cw (Nat.zero_le _) jW) aV aV aV) ?_)));rintro v1 aZ ⟨⟨ig,h1,b_⟩,aA⟩;have f3:=f1.ext aA;have bN:=bJ.ext aA;have i':=aA.size;have Oi:=h1.lt;have oS:=xQ q.length (dY q.length k s);refine .go 5 rfl (.ac (.aH ajt rfl (alj (w0:=aZ) (s:=(gv q.length (dY q.length k s)))  ((h1.b9).cw (Nat.zero_le _) jW) aV) ?_));rintro v2 bp ⟨⟨pQ,ag,eE⟩,aO⟩;have f5:=f3.ext aO;have f7:=h1.ext aO;have cn:=bN.ext aO;have nw:=aO.size;have Dn:=ag.lt;obtain⟨aw,aK,e5,a_,bU,dp,jt,cF⟩:=aq.fO f7.b9 underlying57 aI aF.fz (k:=.i64) (n:=0) (0) jW aV;refine .go 6 rfl (.z (.indexAddr rfl rfl bU) (have Bn:=pc a_;have YB:=xR (n:=q.length) hk.1 s 0;.z (.dO aI cF) (.z (.cb (aw+1) rfl rfl aa) (.go 1 rfl (.z (.cb (k+1) rfl rfl aa) (.z (.min rfl rfl) ?_))))));obtain⟨cI,x2,cJ⟩:=Acc.at ag underlying57 aI (k:=.i64) (n:=0) (0) jW (by first|assumption|omega|(simp;done));refine .z (.indexAddr rfl rfl cI) (.ac (.oI ag aF.fz (i:=0) (o:=0) cJ (min (aw+1) (k+1)) aI rfl jW rfl rfl rfl rfl b5 yh λbZ aY cu cf=>have f8:=f5.bD aY aa;have f10:=f7.bD aY aa;have eL:=Ext.hh cn aY aa;have fa:((gv q.length (dY q.length k s)).set 0 (min (aw+1) (k+1))).length=(gv q.length (dY q.length k s)).length:=List.length_set;.go 5 rfl (.z (.ct underlying179 (f8) rfl) (.ae 3 rfl (dV (I:=λm E W=>∃(i:Nat) (vO:List Int),E=[(1,U k),(3,.int .i32 r),(9,v1),(10,v2),(32,mn),(33,U (q.length:Int)),(34,U (i:Int))]/\m=q.length-i/\Ext w0 W/\bZ.heap.size<=W.heap.size/\Acc aF.encI 3 1 W ig v1 (gv q.length (dY q.length k s))/\Acc aF.encI 3 1 W pQ v2 vO/\aq iM W (cp w0) mn q/\(pQ≠ig\/ig=0)/\(vO=gv q.length (r2 q.length k q s r i))/\(vO.length=q.length+1)) ?_ ?_)))))
 . refine⟨_,_,⟨(0:Nat),(((gv q.length (dY q.length k s)).set 0 (min (aw+1) (k+1))):List Int),rfl,rfl,eL,Nat.le_refl _,f10,cf,f8,jW,(by exact aha a_),(by(simp only[List.length_set];omega))⟩,bj⟩
 . rintro _ _ cM ⟨i,vO,rfl,rfl,fL,wP,f11,f12,f13,nj,Kh,asG⟩ b4;refine .go 2 rfl (.bh (.lt rfl rfl) (λaG=>?_) λaG=>?_)
   . refine .ae 2 rfl ?_;obtain⟨gC,bx,hL,h5,e0,mi,qd,ey⟩:=aq.fO f13 underlying179 hV oE (k:=.i64) (n:=(i:Int)) (i) jW aV;refine .go 7 rfl (.z (.indexAddr rfl rfl e0) (.z (.dO hV ey) ?_));obtain⟨fR,bK,pP,iS,h_,lX,DH,jE⟩:=aq.fO f11.b9 underlying57 aI aF.fz (k:=.i64) (n:=(i:Int)) (i) jW aV;refine .go 7 rfl (.z (.indexAddr rfl rfl h_) (have asH:=pc iS;have asI:=xR (n:=q.length) hk.1 s i;.z (.dO aI jE) (.go 7 rfl (.mg (.ne rfl rfl) (λaJ=>?_) λaJ=>?_))))
     . refine .go 4 rfl (.z (.cb (fR+1) rfl rfl aa) (.ae 2 rfl (eR (λi=>Nat.beq i 19) 19 (λan=>Mod (ca 0) cM an) mixed λc7 bu=>have f14:=f11.ext bu;have f15:=f12.ext bu;have f16:=f13.ext bu;have iG:=fL.ext bu;have zv:=bu.size;have lU:Mod (ca 0) cM c7:=Mod.ga bu;⟨lU,?_⟩)));refine .gd 2 rfl (.z rfl (.cb ((i+1:Nat):Int) rfl rfl jW) (.gd 2 rfl (.z rfl (.cb ((i+1:Nat):Int) rfl rfl jW) ?_)));obtain⟨iT,c',tD,k5,h',lY,O9,ml⟩:=aq.fO f11.b9 underlying57 aI aF.fz (k:=.i64) (n:=((i+1:Nat):Int)) (i+1) jW aV;refine .z rfl (.indexAddr rfl rfl h') (have aln:=pc k5;have alo:=xR (n:=q.length) hk.1 s (i+1);.z rfl (.cd aI rfl (λ_ al=>ml.bD al jW)) (.z rfl (.cb (iT+1) rfl rfl jW) ?_));obtain⟨mo,hb,zt,tI,mW,tE,alp,qI⟩:=aq.fO f12.b9 underlying57 aI aF.fz (k:=.i64) (n:=(i:Int)) (i) jW aV;refine .gd 2 rfl (.z rfl (.indexAddr rfl rfl mW) (have alq:=pc (Kh▸tI);have alr:=V_ (n:=q.length) (q:=q) (r:=r) hk.1 s i i;.z rfl (.cd aI rfl (λ_ al=>qI.bD al jW)) (.z rfl (.cb (mo+1) rfl rfl jW) (.gd 2 rfl (.z rfl (.cb (k+1) rfl rfl jW) (.z rfl (.R0 rfl rfl rfl rfl) ?_))))));obtain⟨pZ,sg,Bv⟩:=Acc.at f12 underlying57 aI (k:=.i64) (n:=((i+1:Nat):Int)) (i+1) jW (by first|assumption|omega|(simp;done));exact .z rfl (.indexAddr rfl rfl pZ) (.ac rfl (.oI f15 aF.fz (i:=(i+1)) (o:=0) Bv (min (min (min (iT+1) (mo+1)) (fR+1)) (k+1)) aI rfl jW rfl rfl rfl rfl b5 yh λdA b' ef dW=>have f17:=f14.bD b' aa;have f18:=f16.bD b' aa;have ko:=Ext.hh iG b' aa;⟨.inl rfl,(have Bk:(vO.set (i+1) (min (min (min (iT+1) (mo+1)) (fR+1)) (k+1))).length=vO.length:=List.length_set;.nil (.go 2 rfl (.z (.cb ((i+1:Nat):Int) rfl rfl jW) (.ae 2 rfl ((b4 _ _ _ ⟨(i+1:Nat),((vO.set (i+1) (min (min (min (iT+1) (mo+1)) (fR+1)) (k+1))):List Int),rfl,rfl,ko,jW,f17,dW,f18,jW,YC,be⟩ jW).sub bj)))))⟩))
     refine .ae 3 rfl (eR (λi=>Nat.beq i 19) 19 (λan=>Mod (ca 0) cM an) mixed λc7 bu=>have f14:=f11.ext bu;have f15:=f12.ext bu;have f16:=f13.ext bu;have iG:=fL.ext bu;have zv:=bu.size;have lU:Mod (ca 0) cM c7:=Mod.ga bu;⟨lU,?_⟩);refine .gd 2 rfl (.z rfl (.cb ((i+1:Nat):Int) rfl rfl jW) (.gd 2 rfl (.z rfl (.cb ((i+1:Nat):Int) rfl rfl jW) ?_)));obtain⟨iT,c',tD,k5,h',lY,O9,ml⟩:=aq.fO f11.b9 underlying57 aI aF.fz (k:=.i64) (n:=((i+1:Nat):Int)) (i+1) jW aV;refine .z rfl (.indexAddr rfl rfl h') (have aln:=pc k5;have alo:=xR (n:=q.length) hk.1 s (i+1);.z rfl (.cd aI rfl (λ_ al=>ml.bD al jW)) (.z rfl (.cb (iT+1) rfl rfl aa) ?_));obtain⟨mo,hb,zt,tI,mW,tE,alp,qI⟩:=aq.fO f12.b9 underlying57 aI aF.fz (k:=.i64) (n:=(i:Int)) (i) jW aV;refine .gd 2 rfl (.z rfl (.indexAddr rfl rfl mW) (have alq:=pc (Kh▸tI);have alr:=V_ (n:=q.length) (q:=q) (r:=r) hk.1 s i i;.z rfl (.cd aI rfl (λ_ al=>qI.bD al jW)) (.z rfl (.cb (mo+1) rfl rfl aa) (.gd 2 rfl (.z rfl (.cb (k+1) rfl rfl aa) (.z rfl (.R0 rfl rfl rfl rfl) ?_))))));obtain⟨pZ,sg,Bv⟩:=Acc.at f12 underlying57 aI (k:=.i64) (n:=((i+1:Nat):Int)) (i+1) jW (by first|assumption|omega|(simp;done));exact .z rfl (.indexAddr rfl rfl pZ) (.ac rfl (.oI f15 aF.fz (i:=(i+1)) (o:=0) Bv (min (min (min (iT+1) (mo+1)) fR) (k+1)) aI rfl jW rfl rfl rfl rfl b5 yh λdA b' ef dW=>have f17:=f14.bD b' aa;have f18:=f16.bD b' aa;have ko:=Ext.hh iG b' aa;⟨.inl rfl,(have Bk:(vO.set (i+1) (min (min (min (iT+1) (mo+1)) fR) (k+1))).length=vO.length:=List.length_set;.nil (.go 2 rfl (.z (.cb ((i+1:Nat):Int) rfl rfl jW) (.ae 2 rfl ((b4 _ _ _ ⟨(i+1:Nat),((vO.set (i+1) (min (min (min (iT+1) (mo+1)) fR) (k+1))):List Int),rfl,rfl,ko,jW,f17,dW,f18,jW,YC,be⟩ jW).sub bj)))))⟩))
   refine .go 8 rfl (.ac (.aH aju rfl (alk (w0:=cM) (row:=vO) (k) ((f12.b9).cw (Nat.zero_le _) jW) cK aV (by exact ahe Kh jW) (by exact Nl hk.1 (xR hk.1 s)) aV) ?_));rintro v3 c7 ⟨⟨r_,aB,jS⟩,bu⟩;have mi:=f11.lt;have lX:=f12.lt;have iG:=fL.ext bu;have zv:=bu.size;exact .ae 2 rfl (aM func146 rfl rfl (ao.mk ⟨⟨_,Acc.cast aB dz,by omega⟩,iG⟩))
theorem Kj{p:Prop}(h:p:=by first|(rw[if_pos aa];done)|(rw[if_neg aa];omega)|exact(decide_eq_false aa).symm|exact(decide_eq_true aa).symm|(exfalso;omega)):p:=h
theorem als{w0:World}{mn:Value}{q:List Int}(k:Int){ky:Value}{s:List Pos}(Bu:aq iM w0 (cp w0) mn q)(ym:bY k)(ow:aq lC w0 (cp w0) ky s)(hk:0<=k/\k<=4)(dB:q.length<=1000)(hU:s.length<=1000):
 bG 143 #[mn,U k,ky] w0 (ao λaC ai=>∃eS gl,aC=.tuple #[eS,gl]/\eS=U (if dY q.length k s q.length>k then 0 else dY q.length k s q.length)/\(∃cv:Bool,cv=(decide (dY q.length k s q.length<=k))/\gl=.bool cv)/\Ext w0 ai):=by
 have bA:=ew w0;refine bQ func143 rfl ntmps143 rfl (.go 9 rfl (.ac (.aH N3 rfl (O3 (w0:=w0)  (k) cK aV) ?_)));rintro _ ai ⟨⟨_,rfl,rfl⟩,av⟩;have f1:=Bu.ext av;have f2:=ow.ext av;have bJ:=bA.ext av;have hl:=av.size;refine .z (.not rfl) (.go 8 rfl (.ac (.aH XK rfl (Yz (w0:=ai) (q:=q) (s:=s) (k) ((f1).cw (Nat.zero_le _) aa) cK ((f2).cw (Nat.zero_le _) aa) aV aV aV) ?_)));rintro v1 aZ ⟨⟨ig,h1,b_⟩,aA⟩;have f3:=f1.ext aA;have bN:=bJ.ext aA;have oS:=xQ q.length (dY q.length k s);refine .go 1 rfl (.z (.ct underlying179 (f3) rfl) ?_);obtain⟨aw,aK,e5,a_,bU,cA,jt,cF⟩:=aq.fO h1.b9 underlying57 aI aF.fz (k:=.i64) (n:=(q.length:Int)) (q.length) aa aV;refine .z (.indexAddr rfl rfl bU) (have Bn:=pc a_;have YB:=xR (n:=q.length) hk.1 s q.length;.z (.dO aI cF) (.go 7 rfl (.bh (.gt rfl rfl) (λaG=>?_) λaG=>?_)))
 . exact .ae 7 rfl (cO func143 rfl rfl rfl (ao.mk ⟨_,_,rfl,(cV Kj),⟨_,Kj,rfl⟩,bN⟩))
 exact .ae 9 rfl (cO func143 rfl rfl rfl (ao.mk ⟨_,_,rfl,(cV Kj),⟨_,Kj,rfl⟩,bN⟩))
theorem Kk{w0:World}{ky:Value}{s:List Pos}(ow:aq lC w0 (cp w0) ky s):
 bG 147 #[ky] w0 (ao λaC ai=>(∃cv:Bool,cv=s.isEmpty/\aC=.bool cv)/\Ext w0 ai):=by
 have bA:=ew w0;exact bQ func147 rfl ntmps147 rfl (.go 7 rfl (.z (.ct underlying225 (ow) rfl) (.dN (.eq rfl rfl) λaK aG=>.ae 2 rfl (aM func147 rfl rfl (ao.mk ⟨⟨_,(by first|exact ahg bd|(exfalso;omega)),rfl⟩,bA⟩)))))
end Go.Proofs
namespace Go.Proofs
open Tryz
open Go.aF Go.ak
theorem zG{p:Prop}(h:p:=by first|(rw[aho rfl rfl,Bw,Wg aa Gb];simp)|(rw[Bw,Wg aa Gb,ahA hd.1 Gc lR jL oH me rfl bd];rfl)|(exfalso;omega)):p:=h
theorem zH{p:Prop}(h:p:=by first|(rw[Wa];rw[Wh aa oR];simp only;omega)|(rw[Wh aa oR];omega)|(exfalso;omega)):p:=h
theorem jF{p:Prop}(h:p:=by omega):p:=h
theorem zI{p:Prop}(h:p:=by first|exact yo|exact λx ah=>List.mem_append_left _ (yo x ah)|(exfalso;omega)):p:=h
theorem mG{p:Prop}(h:p:=by assumption):p:=h
theorem zJ{p:Prop}(h:p:=by first|exact Kl|exact sW|(exfalso;omega)):p:=h
theorem Km{p:Prop}(h:p:=by first|have:=CY sW;rw[Nq aa] at DI;omega|(exfalso;omega)):p:=h
theorem zK{p:Prop}(h:p:=by first|omega|(exfalso;omega)):p:=h
theorem Kn{p:Prop}(h:p:=by first|rw[Nq aa] at DI;omega|(exfalso;omega)):p:=h
theorem Ko{p:Prop}(h:p:=by first|rw[Bw,Wf aa];exact cn|(exfalso;omega)):p:=h
theorem Kp{p:Prop}(h:p:=by first|rw[bN,Bw,Wf aa]|(exfalso;omega)):p:=h
theorem Kq{p:Prop}(h:p:=by(rw[ahn (by have:=ahC Gd;omega)];rfl)):p:=h
theorem Ge{p:Prop}(h:p:=by first|assumption|omega|(simp;done)):p:=h
theorem Kr{p:Prop}(h:p:=by rw[Nq aa] at DI;omega):p:=h
theorem Ks{p:Prop}(h:p:=by first|exact sW|(exfalso;omega)):p:=h
theorem alu {w0:World} {F G:Nat→Prop} {b8:Type} {A:b8→dq az} {kP:FuncId} {first cap:List Value} {ok:b8→aj→Prop} {f:b8→aj→b8×Bool} {jv mn:Value} {gV fb:Nat} {s:c6} {words:List aj} {tp:List cg} {q:List Int} (d:Int) (dD:b8) (aD:Wd Tryz.prog kP first cap A ok f) (bg:(A dD).p F w0) (br:∀ b,F b→b < w0.heap.size) (p6:hy 0 w0 gV fb jv (fW s)) (p3:fb≤w0.heap.size) (Gf:∀ b,gV≤b→b < fb→¬ F b) (dB:aq iM w0 G mn q) (ch:∀ b,G b→¬ F b) (dE:∀ b,G b→b < w0.heap.size) (hd:0≤d∧d≤4) (Dz:q.length≤999) (alv:nodeAt (fW s) 0=(j5 words,tp)) (Er:o8 s (words,tp)) (nz:gy words) (alw:Deep 12 words) (me:∀ y∈s,o8 s y∧gy y.1∧Deep 12 y.1) (dM:s.length≤1000000) (iz:∀ x∈fW s,x.2.length≤1000000) (alx:ur words≤500000) (bX:l' ok f dD (p' words q d)) :
 bG 100 #[jv,mn,U d,.func (.func kP) first.toArray cap.toArray] w0 (ao fun aC ai=>aC=.tuple #[]∧Mod F w0 ai∧∃ bw,(A (fq f dD (p' words q d)).1).p bw ai∧∀ b,bw b→b < ai.heap.size∧(F b∨w0.heap.size≤b)):=by
 have dU:=au.ht (R:=az) bg (fun b ab=>⟨br b ab,id⟩) (fun _ h=>h.elim);have q_:(fW s).length≤1000000:=(by rw [va]; exact dM);refine bQ func100 rfl ntmps100 rfl ?_;refine .go 4 rfl ?_;refine .ac (.aH aji rfl (alm (w0:=w0) (q:=q) (d) (dB.mono (fun b ab=>⟨Nat.zero_le _,Nat.lt_of_lt_of_le (dE b ab) dU.mod.size⟩)) cK aV) ?_);rintro v1 ai ⟨h1,av⟩;have a1:=(dU.ET av h1).bO;have uH:=h1.le;have f1:=a1.gh 1 0;obtain ⟨b1,b2,eb⟩:=f1.shape;subst eb;refine .z (.build (vs:=#[(0,(ad:Value)),(1,(.slice b1 ([Pos.mk 0 0]).length b2)),(2,aE ([]:aj))]) (v:=.agg #[ad,(.slice b1 ([Pos.mk 0 0]).length b2),aE ([]:aj)]) rfl (fun _=>by kernel_rfl)) ?_;refine .ac (.buildSlice [(.agg #[ad,(.slice b1 ([Pos.mk 0 0]).length b2),aE ([]:aj)]:Value)] underlying229 sJ rfl rfl rfl b5 fun aZ aK aA aG cu aW=>?_);have cA:=Acc.eD (enc:=rf) aW ([(hB.mk 0 (cP.mk b1 ([Pos.mk 0 0]).length b2) ([]:aj))]:List hB) 1 rfl A7 rfl eU;have a6:=(a1.fD aA cA (.inr aa)).cm;have ba:=(a6.dw [2,1,0]).cm;refine .ae 3 rfl ?_;refine dV (I:=fun m E W=>∃ (O_:Value) (hs:List hB) (nI:List ha) (V:List (Value×List Pos)) (et:b8),E=[(0,jv),(1,mn),(2,U d),(3,.func (.func kP) first.toArray cap.toArray),(8,O_)]∧m=rb nI∧au az F w0 W [aS rf 228 3 O_ hs,fe lC V,A et]∧(c4 (nU q d s V) hs nI)∧(fq f dD (p' words q d)=fq f et (mP q d nI))∧(l' ok f et (mP q d nI))∧(rb nI≤500000)∧(hs.length≤500000)) ?_ ?_
 · refine ⟨_,_,⟨((.slice (some ⟨aK,0,none⟩) 1 1):Value),([(hB.mk 0 (cP.mk b1 ([Pos.mk 0 0]).length b2) ([]:aj))]:List hB),([ha.mk 0 (words,tp) []]:List ha),([((.slice b1 ([Pos.mk 0 0]).length b2),([Pos.mk 0 0]))]:List (Value×List Pos)),(dD:b8),rfl,rfl,ba,(by exact nU.start hd.1 rfl alv Er nz alw),(by rw [Wc]),(by rw [Wc]; exact bX),(by simpa [rb] using alx),di⟩,bj⟩
 · rintro _ _ bp ⟨O_,hs,nI,V,et,rfl,rfl,bc,v8,fY,pB,asJ,JN⟩ b4;obtain ⟨g1,f2,dp,bF⟩:=bc.bW 0;refine .go 4 rfl ?_;refine .z (.ct underlying229 (f2.b9) rfl) ?_;refine .bh (.gt rfl rfl) (fun aJ=>?_) fun aJ=>?_
   · refine .go 8 rfl ?_;refine .z (.ct underlying229 (f2.b9) rfl) ?_;refine .z (.h0 ((hs.length:Int)-1) rfl rfl jF) ?_;obtain ⟨aw,bx,e5,a_,bU,fa,cF⟩:=aq.jq f2.b9 underlying229 sJ A7 (k:=.i64) (n:=((hs.length:Int)-1)) (hs.length-1) jF aV;refine .z (.indexAddr rfl rfl bU) ?_;refine .z (.cy sJ rfl (fun _ e=>e▸cF) rfl) ?_;obtain ⟨mz,z,zL,rfl,rfl,cu,Gg,qa,Gd,w5,Gc,asK,asL,Kt,vX⟩:=nU.pop v8 a_ jF;rw [V',ahl w5,←ahm] at fY pB;have asM:=Wa mz z;have asN:=aht w5;have qL:=ahv (q:=q) (w:=z.word) hd.1 (D:=dY q.length d (fu q d (d_ z.word)) q.length) rfl;have aly:=ag' (q.length+1) d (hS q (d_ z.word));change (fu q d (d_ z.word)).length≤_ at aly;refine .ac (.alloc sJ fun bZ bK aO aX ef bR=>?_);have bL:=(bc.cW aO aX bR).bT;have f3:=bL.k 3;refine .ac (.st sJ f3 fun cM aY cT=>?_);have bB:=(bL.c_ 3 aY cT.hG).bT;obtain ⟨g2,f4,gI,cB⟩:=bB.bW 0;refine .go 5 rfl ?_;refine .z (.ct underlying229 (f4.b9) rfl) ?_;refine .z (.h0 ((hs.length:Int)-1) rfl rfl jF) ?_;obtain ⟨v2,cI,cf⟩:=Acc.cut (P:=Tryz.prog) f4 underlying229 sJ A7 (k:=.i64) (n:=((hs.length:Int)-1)) (hs.length-1) jF jF;refine .z (.qX rfl rfl rfl rfl cI) ?_;have bI:=(cB _ _ _ _ (Mod.refl _ _) cf (.inl rfl)).bT;refine .go 7 rfl ?_;have f5:=bI.k 3;refine .a7 Fx Fu f5 ?_;have f6:=bI.out dB ch;have f7:=bI.Fj (i:=1) rfl Gg;refine .ac (.aH ajj rfl (als (w0:=cM) (q:=q) (s:=(fu q d (d_ z.word))) (d) (f6.mono (fun b ab=>⟨Nat.zero_le _,Nat.lt_of_lt_of_le (dE b ab) bI.mod.size⟩)) cK f7 aV aV aV) ?_);rintro _ c7 ⟨_,_,rfl,rfl,⟨cC,bs,rfl⟩,bu⟩;have bq:=bI.ext bu;refine .go 10 rfl ?_;cases cC
     case true =>
      replace bs:=bs.symm;refine .go 2 rfl ?_;refine .gg (.eq rfl rfl) (fun cH=>?_) fun cH=>?_
      · refine .go 3 rfl ?_;have f8:=bq.k 3;refine .a7 Fw aI f8 ?_;have f9:=hy.A6 p6 bq.mod Gf;refine .ac (.aH XH rfl (X7 (w0:=c7)  (z.n:Int) f9 (Nat.le_trans p3 bq.mod.size) cK Ge) ?_);rintro _ dA ⟨⟨hb,cr,rfl⟩,b'⟩;have bM:=bq.ext b';rw [qa] at cr;dsimp only at cr;refine .go 2 rfl ?_;cases hb
        case true =>
         replace cr:=cr.symm;refine .go 1 rfl ?_;have f10:=bM.k 3;refine .a7 Fy dT f10 ?_;have Al:j5 z.x.1=true:=(by assumption);obtain ⟨hW,dx,ds,dc⟩:=bM.ez 2;refine .ac (.call (first:=first) (cap:=cap) aD.cl rfl rfl (aD.call _ _ _ _ dx (fun b ab=>(ds b ab).2) (ahy pB ⟨Al,qL.1 (Fl mG mG)⟩)) ?_);rintro _ eK ⟨rfl,cG,fr,gX,dZ⟩;have b3:=(dc _ _ _ cG gX dZ).bT;clear dx ds dc gX dZ;generalize dt:(f et z.word).2=hf;replace dt:=dt.symm;cases hf
         case true =>
          replace dt:=dt.symm;refine .z (.not rfl) ?_;refine .go 7 rfl ?_;have f11:=b3.k 3;refine .a7 Fw aI f11 ?_;have f12:=hy.A6 p6 b3.mod Gf;refine .ac (.aH De rfl (Dj (w0:=eK)  (z.n:Int) f12 (Nat.le_trans p3 b3.mod.size) cK Ge (by first|assumption|(simp; done))) ?_);rintro v3 ff ⟨⟨ig,ag,b_⟩,dg⟩;have ck:=(b3.fD dg ag b_).cU;clear b_;have uJ:(nodeAt (fW s) (z.n:Int)).2=z.x.2:=(by rw [qa]);have vL:=Cw iz (z.n:Int);rw [uJ] at vL;have cQ:au az F w0 ff [aS rf 228 3 v2 (hs.take (hs.length-1)),fe lC V,A (f et z.word).1,ay bK [U (z.n:Int),zL.val,aE z.word] 228,aS e2 233 2 v3 z.x.2]:=(by rw [←uJ]; exact ck);have bN:fq f dD (p' words q d)=fq f (f et z.word).1 (mQ q d z 0++mP q d mz):=ahx fY ⟨Al,qL.1 (Fl mG mG)⟩ mG;have cn:l' ok f (f et z.word).1 (mQ q d z 0++mP q d mz):=ahz pB ⟨Al,qL.1 (Fl mG mG)⟩ mG;obtain ⟨g3,f13,ja,dG⟩:=cQ.bW 4;refine .go 5 rfl ?_;refine .z (.ct underlying219 (f13.b9) rfl) ?_;refine .z (.h0 ((z.x.2.length:Int)-1) rfl rfl jF) ?_;have dH:=(cQ.dw [0,1,3,4,2]).cU;refine .ae 3 rfl ?_;refine dV (I:=fun m E W=>∃ (n1:Value) (mq:List hB) (i:Int) (k8:List ha) (kp:List (Value×List Pos)),E=[(0,jv),(1,mn),(2,U d),(3,.func (.func kP) first.toArray cap.toArray),(8,n1),(9,ptr bK 0),(12,v3),(13,U i)]∧m=(i+1).toNat∧au az F w0 W [aS rf 228 3 n1 mq,fe lC kp,ay bK [U (z.n:Int),zL.val,aE z.word] 228,aS e2 233 2 v3 z.x.2,A (f et z.word).1]∧(c4 (nU q d s kp) mq k8)∧(∀ x∈V,x∈kp)∧(mP q d k8=mQ q d z (i+1).toNat++mP q d mz)∧(rb k8≤rb mz+re (g_ (fI z.x.1)) (i+1).toNat)∧(-1≤i∧i < (z.x.2.length:Int))) ?_ ?_
          · refine ⟨_,_,⟨(v2:Value),((hs.take (hs.length-1)):List hB),(((z.x.2.length:Int)-1):Int),(mz:List ha),(V:List (Value×List Pos)),rfl,rfl,dH,(by exact cu),(by exact fun x ah=>ah),Kq,jF,jF⟩,bj⟩
          · rintro _ _ fm ⟨n1,mq,i,k8,kp,rfl,rfl,dh,sW,yo,Bw,DI,yg⟩ fP;refine .go 4 rfl ?_;refine .bh (.ge rfl rfl) (fun dy=>?_) fun dy=>?_
            · refine .ae 1 rfl ?_;obtain ⟨g4,f14,iy,g'⟩:=dh.bW 3;obtain ⟨x2,kz,hL,cJ,e0,mi,ey⟩:=aq.jq f14.b9 underlying219 eP lz (k:=.i64) (n:=i) ((i).toNat) jF aV;refine .go 8 rfl ?_;refine .z (.indexAddr rfl rfl e0) ?_;obtain ⟨fU,yj,ql,kK,lR,qB,oH,jL,F3⟩:=AO Gd w5 cJ;obtain ⟨vm,rfl,tt⟩:=Cx w5 Kt kK;have o0:fE x2.rune=eg fU.1:=(by rw [lR]; exact yP jL);have Bx:=xD fU.1;have O':(fE x2.rune).length≤4:=(by rw [o0]; exact Bx);have pN:0≤x2.rune∧x2.rune≤1114111:=(by rw [lR]; have:=jL.1; omega);have Gb:=IW (q:=q) (d:=d) kK;have oR:=IY kK;have Pa:=Fh fU.2;have Pb:=CY sW;have Pc:=I2 (g_ (fI z.x.1)) (i+1).toNat;refine .z (.cy eP rfl (fun _ e=>e▸ey) rfl) ?_;refine .ac (.alloc eP fun hv ny dm e1 hc de=>?_);have fc:=(dh.cW dm e1 de).n6;have f15:=fc.k 5;refine .ac (.store eP rfl rfl rfl rfl rfl f15 dj fun jl dP gZ e6=>?_);have eF:=(fc.c_ 5 dP e6.c2).n6;refine .go 5 rfl ?_;have f16:=eF.k 2;refine .a7 Fx Fu f16 ?_;have f17:=eF.k 5;refine .a7 rl hV f17 ?_;have f18:=eF.out dB ch;have f19:=eF.Fj (i:=1) rfl (yo _ Gg);refine .ac (.aH Ju rfl (Ki (w0:=jl) (q:=q) (s:=(fu q d (d_ z.word))) (d) (x2.rune) (f18.mono (fun b ab=>⟨Nat.zero_le _,Nat.lt_of_lt_of_le (dE b ab) eF.mod.size⟩)) cK f19 cK aV aV aV) ?_);rintro v4 lK ⟨⟨pQ,aB,eE⟩,eV⟩;have gw:=(eF.fD eV aB eE).n7;clear eE;obtain ⟨g5,f20,lX,i7⟩:=gw.bW 6;refine .go 5 rfl ?_;refine .ac (.aH Jv rfl (Kk (w0:=lK) (s:=(fQ (q.length+1) d (fJ d q (dY q.length d (fu q d (d_ z.word))) x2.rune)))  (f20.b9.cw (Nat.zero_le _) f20.lt)) ?_);rintro _ oz ⟨⟨pn,gq,rfl⟩,gQ⟩;have fs:=gw.ext gQ;cases pn
              case true =>
               replace gq:=gq.symm;refine .z (.not rfl) ?_;refine .go 6 rfl ?_;refine .z (.h0 (i-1) rfl rfl jF) ?_;have gM:=(fs.dw [0,1,2,3,4]).cU;refine .ae 2 rfl ?_;exact (fP _ _ _ ⟨(n1:Value),(mq:List hB),((i-1):Int),(k8:List ha),(kp:List (Value×List Pos)),rfl,rfl,gM,zJ,zI,zG,zH,zK⟩ jF).sub bj
              replace gq:=gq.symm;refine .z (.not rfl) ?_;refine .go 4 rfl ?_;have f21:=fs.k 5;refine .a7 rm aI f21 ?_;refine .go 1 rfl ?_;have f22:=fs.k 2;refine .a7 Fy dT f22 ?_;refine .a7 rl hV f21 ?_;refine .z (.vZ c0 underlying9 rfl) ?_;refine .z (.uX rfl rfl vI) ?_;obtain ⟨g6,f23,mj,pa⟩:=fs.bW 6;obtain ⟨eM,eN,kn⟩:=f23.shape;subst kn;refine .z (.build (vs:=#[(0,(U x2.to:Value)),(1,(.slice eM (fQ (q.length+1) d (fJ d q (dY q.length d (fu q d (d_ z.word))) x2.rune)).length eN)),(2,aE (z.word++(fE x2.rune)))]) (v:=.agg #[U x2.to,(.slice eM (fQ (q.length+1) d (fJ d q (dY q.length d (fu q d (d_ z.word))) x2.rune)).length eN),aE (z.word++(fE x2.rune))]) rfl (fun _=>by kernel_rfl)) ?_;refine .ac (.buildSlice [(.agg #[U x2.to,(.slice eM (fQ (q.length+1) d (fJ d q (dY q.length d (fu q d (d_ z.word))) x2.rune)).length eN),aE (z.word++(fE x2.rune))]:Value)] underlying229 sJ rfl rfl rfl b5 fun yf zz j9 nx kg gE=>?_);have kV:=aq.eD (enc:=rf) gE ([(hB.mk x2.to (cP.mk eM (fQ (q.length+1) d (fJ d q (dY q.length d (fu q d (d_ z.word))) x2.rune)).length eN) (z.word++(fE x2.rune)))]:List hB) 1 rfl rfl eU;have gD:=(fs.hI j9 nx kg kV).n8;obtain ⟨g8,f24,lY,oi⟩:=gD.bW 0;have f25:=gD.gh 7 0;refine .ac (.append f24 underlying229 sJ rfl A7 I0 rfl rfl (f25) ol fG fun v5 g7 Pd dW Gh jS vK=>?_);have iA:=(oi _ _ _ _ Gh dW jS).n8;clear jS;have iH:=(iA.freeze (i:=6) rfl).n8;have k6:=(iH.aR [0,2,3,4,5,7] 1 6).n7;have lZ:=(k6.ty (fe lC (kp++[((.slice eM (fQ (q.length+1) d (fJ d q (dY q.length d (fu q d (d_ z.word))) x2.rune)).length eN),(fQ (q.length+1) d (fJ d q (dY q.length d (fu q d (d_ z.word))) x2.rune)))])) 6 rfl (fun ec bP=>IZ bP)).n7;have Kl:=nU.push hd.1 sW dM me Gc (sh:=cP.mk eM (fQ (q.length+1) d (fJ d q (dY q.length d (fu q d (d_ z.word))) x2.rune)).length eN) (L:=(fQ (q.length+1) d (fJ d q (dY q.length d (fu q d (d_ z.word))) x2.rune))) (wd:=z.word++fE x2.rune) lR oH jL rfl (by rw [o0]) tt vX qB;refine .go 5 rfl ?_;refine .z (.h0 (i-1) rfl rfl jF) ?_;have qn:=(lZ.dw [0,6,1,2,3]).cU;refine .ae 2 rfl ?_;exact (fP _ _ _ ⟨(v5:Value),((mq++[(hB.mk x2.to (cP.mk eM (fQ (q.length+1) d (fJ d q (dY q.length d (fu q d (d_ z.word))) x2.rune)).length eN) (z.word++(fE x2.rune)))]):List hB),((i-1):Int),((k8++[ha.mk yj (fU.2,ql) (z.word++eg fU.1)]):List ha),((kp++[((.slice eM (fQ (q.length+1) d (fJ d q (dY q.length d (fu q d (d_ z.word))) x2.rune)).length eN),(fQ (q.length+1) d (fJ d q (dY q.length d (fu q d (d_ z.word))) x2.rune)))]):List (Value×List Pos)),rfl,rfl,qn,zJ,zI,zG,zH,zK⟩ jF).sub bj
            refine .ae 1 rfl ?_;have eB:=(dh.dw [0,1,4]).cm;refine .ae 3 rfl ?_;exact (b4 _ _ _ ⟨(n1:Value),(mq:List hB),(k8:List ha),(kp:List (Value×List Pos)),((f et z.word).1:b8),rfl,rfl,eB,Ks,Kp,Ko,Kn,Km⟩ Kr).sub bj
         replace dt:=dt.symm;refine .z (.not rfl) ?_;refine .ae 3 rfl ?_;refine tP func100 rfl ?_;have bS:=(b3.dw [2]).cj;have oC:(fq f dD (p' words q d)).1=(f et z.word).1:=(by first|(rw [We fY ⟨Al,qL.1 (Fl mG mG)⟩ mG]; done)|(rw [fY,Wi v8 jF]; rfl));obtain ⟨cD,cX,cY,cR⟩:=bS.fin;exact ao.mk ⟨rfl,cD,cX,oC▸cY,cR⟩
        replace cr:=cr.symm;refine .go 12 rfl ?_;have f10:=bM.k 3;refine .a7 Fw aI f10 ?_;have f11:=hy.A6 p6 bM.mod Gf;refine .ac (.aH De rfl (Dj (w0:=dA)  (z.n:Int) f11 (Nat.le_trans p3 bM.mod.size) cK Ge (by first|assumption|(simp; done))) ?_);rintro v3 eK ⟨⟨ig,ag,b_⟩,cG⟩;have bS:=(bM.fD cG ag b_).cU;clear b_;have uJ:(nodeAt (fW s) (z.n:Int)).2=z.x.2:=(by rw [qa]);have vL:=Cw iz (z.n:Int);rw [uJ] at vL;have ck:au az F w0 eK [aS rf 228 3 v2 (hs.take (hs.length-1)),fe lC V,A et,ay bK [U (z.n:Int),zL.val,aE z.word] 228,aS e2 233 2 v3 z.x.2]:=(by rw [←uJ]; exact bS);have bN:fq f dD (p' words q d)=fq f et (mQ q d z 0++mP q d mz):=No fY (fun al=>by first|exact CZ mG (qL.2 al.2)|exact C0 mG (qL.2 al.2)|exact absurd al.1 (by simp [*]));have cn:l' ok f et (mQ q d z 0++mP q d mz):=Np pB (fun al=>by first|exact CZ mG (qL.2 al.2)|exact C0 mG (qL.2 al.2)|exact absurd al.1 (by simp [*]));obtain ⟨g3,f12,ja,dG⟩:=ck.bW 4;refine .go 5 rfl ?_;refine .z (.ct underlying219 (f12.b9) rfl) ?_;refine .z (.h0 ((z.x.2.length:Int)-1) rfl rfl jF) ?_;have dh:=(ck.dw [0,1,3,4,2]).cU;refine .ae 3 rfl ?_;refine dV (I:=fun m E W=>∃ (n1:Value) (mq:List hB) (i:Int) (k8:List ha) (kp:List (Value×List Pos)),E=[(0,jv),(1,mn),(2,U d),(3,.func (.func kP) first.toArray cap.toArray),(8,n1),(9,ptr bK 0),(12,v3),(13,U i)]∧m=(i+1).toNat∧au az F w0 W [aS rf 228 3 n1 mq,fe lC kp,ay bK [U (z.n:Int),zL.val,aE z.word] 228,aS e2 233 2 v3 z.x.2,A et]∧(c4 (nU q d s kp) mq k8)∧(∀ x∈V,x∈kp)∧(mP q d k8=mQ q d z (i+1).toNat++mP q d mz)∧(rb k8≤rb mz+re (g_ (fI z.x.1)) (i+1).toNat)∧(-1≤i∧i < (z.x.2.length:Int))) ?_ ?_
        · refine ⟨_,_,⟨(v2:Value),((hs.take (hs.length-1)):List hB),(((z.x.2.length:Int)-1):Int),(mz:List ha),(V:List (Value×List Pos)),rfl,rfl,dh,(by exact cu),(by exact fun x ah=>ah),Kq,jF,jF⟩,bj⟩
        · rintro _ _ ff ⟨n1,mq,i,k8,kp,rfl,rfl,cQ,sW,yo,Bw,DI,yg⟩ fP;refine .go 4 rfl ?_;refine .bh (.ge rfl rfl) (fun dt=>?_) fun dt=>?_
          · refine .ae 1 rfl ?_;obtain ⟨g4,f13,iy,g'⟩:=cQ.bW 3;obtain ⟨x2,jU,hL,cJ,e0,mi,ey⟩:=aq.jq f13.b9 underlying219 eP lz (k:=.i64) (n:=i) ((i).toNat) jF aV;refine .go 8 rfl ?_;refine .z (.indexAddr rfl rfl e0) ?_;obtain ⟨fU,yj,ql,kK,lR,qB,oH,jL,F3⟩:=AO Gd w5 cJ;obtain ⟨vm,rfl,tt⟩:=Cx w5 Kt kK;have o0:fE x2.rune=eg fU.1:=(by rw [lR]; exact yP jL);have Bx:=xD fU.1;have O':(fE x2.rune).length≤4:=(by rw [o0]; exact Bx);have pN:0≤x2.rune∧x2.rune≤1114111:=(by rw [lR]; have:=jL.1; omega);have Gb:=IW (q:=q) (d:=d) kK;have oR:=IY kK;have Pa:=Fh fU.2;have Pb:=CY sW;have Pc:=I2 (g_ (fI z.x.1)) (i+1).toNat;refine .z (.cy eP rfl (fun _ e=>e▸ey) rfl) ?_;refine .ac (.alloc eP fun fm kz dg dy hc de=>?_);have eB:=(cQ.cW dg dy de).n6;have f14:=eB.k 5;refine .ac (.store eP rfl rfl rfl rfl rfl f14 dj fun hv dm gZ e6=>?_);have fc:=(eB.c_ 5 dm e6.c2).n6;refine .go 5 rfl ?_;have f15:=fc.k 2;refine .a7 Fx Fu f15 ?_;have f16:=fc.k 5;refine .a7 rl hV f16 ?_;have f17:=fc.out dB ch;have f18:=fc.Fj (i:=1) rfl (yo _ Gg);refine .ac (.aH Ju rfl (Ki (w0:=hv) (q:=q) (s:=(fu q d (d_ z.word))) (d) (x2.rune) (f17.mono (fun b ab=>⟨Nat.zero_le _,Nat.lt_of_lt_of_le (dE b ab) fc.mod.size⟩)) cK f18 cK aV aV aV) ?_);rintro v4 jl ⟨⟨pQ,aB,eE⟩,dP⟩;have ej:=(fc.fD dP aB eE).n7;clear eE;obtain ⟨g5,f19,lX,i7⟩:=ej.bW 6;refine .go 5 rfl ?_;refine .ac (.aH Jv rfl (Kk (w0:=jl) (s:=(fQ (q.length+1) d (fJ d q (dY q.length d (fu q d (d_ z.word))) x2.rune)))  (f19.b9.cw (Nat.zero_le _) f19.lt)) ?_);rintro _ lK ⟨⟨ny,e1,rfl⟩,eV⟩;have gw:=ej.ext eV;cases ny
            case true =>
             replace e1:=e1.symm;refine .z (.not rfl) ?_;refine .go 6 rfl ?_;refine .z (.h0 (i-1) rfl rfl jF) ?_;have fs:=(gw.dw [0,1,2,3,4]).cU;refine .ae 2 rfl ?_;exact (fP _ _ _ ⟨(n1:Value),(mq:List hB),((i-1):Int),(k8:List ha),(kp:List (Value×List Pos)),rfl,rfl,fs,zJ,zI,zG,zH,zK⟩ jF).sub bj
            replace e1:=e1.symm;refine .z (.not rfl) ?_;refine .go 4 rfl ?_;have f20:=gw.k 5;refine .a7 rm aI f20 ?_;refine .go 1 rfl ?_;have f21:=gw.k 2;refine .a7 Fy dT f21 ?_;refine .a7 rl hV f20 ?_;refine .z (.vZ c0 underlying9 rfl) ?_;refine .z (.uX rfl rfl vI) ?_;obtain ⟨g6,f22,mj,pa⟩:=gw.bW 6;obtain ⟨eM,eN,kn⟩:=f22.shape;subst kn;refine .z (.build (vs:=#[(0,(U x2.to:Value)),(1,(.slice eM (fQ (q.length+1) d (fJ d q (dY q.length d (fu q d (d_ z.word))) x2.rune)).length eN)),(2,aE (z.word++(fE x2.rune)))]) (v:=.agg #[U x2.to,(.slice eM (fQ (q.length+1) d (fJ d q (dY q.length d (fu q d (d_ z.word))) x2.rune)).length eN),aE (z.word++(fE x2.rune))]) rfl (fun _=>by kernel_rfl)) ?_;refine .ac (.buildSlice [(.agg #[U x2.to,(.slice eM (fQ (q.length+1) d (fJ d q (dY q.length d (fu q d (d_ z.word))) x2.rune)).length eN),aE (z.word++(fE x2.rune))]:Value)] underlying229 sJ rfl rfl rfl b5 fun oz pn gQ gq kg gE=>?_);have kV:=aq.eD (enc:=rf) gE ([(hB.mk x2.to (cP.mk eM (fQ (q.length+1) d (fJ d q (dY q.length d (fu q d (d_ z.word))) x2.rune)).length eN) (z.word++(fE x2.rune)))]:List hB) 1 rfl rfl eU;have gM:=(gw.hI gQ gq kg kV).n8;obtain ⟨g8,f23,lY,oi⟩:=gM.bW 0;have f24:=gM.gh 7 0;refine .ac (.append f23 underlying229 sJ rfl A7 I0 rfl rfl (f24) ol fG fun v5 g7 yf dW j9 jS vK=>?_);have gD:=(oi _ _ _ _ j9 dW jS).n8;clear jS;have iA:=(gD.freeze (i:=6) rfl).n8;have iH:=(iA.aR [0,2,3,4,5,7] 1 6).n7;have k6:=(iH.ty (fe lC (kp++[((.slice eM (fQ (q.length+1) d (fJ d q (dY q.length d (fu q d (d_ z.word))) x2.rune)).length eN),(fQ (q.length+1) d (fJ d q (dY q.length d (fu q d (d_ z.word))) x2.rune)))])) 6 rfl (fun ec bP=>IZ bP)).n7;have Kl:=nU.push hd.1 sW dM me Gc (sh:=cP.mk eM (fQ (q.length+1) d (fJ d q (dY q.length d (fu q d (d_ z.word))) x2.rune)).length eN) (L:=(fQ (q.length+1) d (fJ d q (dY q.length d (fu q d (d_ z.word))) x2.rune))) (wd:=z.word++fE x2.rune) lR oH jL rfl (by rw [o0]) tt vX qB;refine .go 5 rfl ?_;refine .z (.h0 (i-1) rfl rfl jF) ?_;have lZ:=(k6.dw [0,6,1,2,3]).cU;refine .ae 2 rfl ?_;exact (fP _ _ _ ⟨(v5:Value),((mq++[(hB.mk x2.to (cP.mk eM (fQ (q.length+1) d (fJ d q (dY q.length d (fu q d (d_ z.word))) x2.rune)).length eN) (z.word++(fE x2.rune)))]):List hB),((i-1):Int),((k8++[ha.mk yj (fU.2,ql) (z.word++eg fU.1)]):List ha),((kp++[((.slice eM (fQ (q.length+1) d (fJ d q (dY q.length d (fu q d (d_ z.word))) x2.rune)).length eN),(fQ (q.length+1) d (fJ d q (dY q.length d (fu q d (d_ z.word))) x2.rune)))]):List (Value×List Pos)),rfl,rfl,lZ,zJ,zI,zG,zH,zK⟩ jF).sub bj
          refine .ae 1 rfl ?_;have dH:=(cQ.dw [0,1,4]).cm;refine .ae 3 rfl ?_;exact (b4 _ _ _ ⟨(n1:Value),(mq:List hB),(k8:List ha),(kp:List (Value×List Pos)),(et:b8),rfl,rfl,dH,Ks,Kp,Ko,Kn,Km⟩ Kr).sub bj
      refine .go 20 rfl ?_;have f8:=bq.k 3;refine .a7 Fw aI f8 ?_;have f9:=hy.A6 p6 bq.mod Gf;refine .ac (.aH De rfl (Dj (w0:=c7)  (z.n:Int) f9 (Nat.le_trans p3 bq.mod.size) cK Ge (by first|assumption|(simp; done))) ?_);rintro v3 dA ⟨⟨ig,ag,b_⟩,b'⟩;have b3:=(bq.fD b' ag b_).cU;clear b_;have uJ:(nodeAt (fW s) (z.n:Int)).2=z.x.2:=(by rw [qa]);have vL:=Cw iz (z.n:Int);rw [uJ] at vL;have bS:au az F w0 dA [aS rf 228 3 v2 (hs.take (hs.length-1)),fe lC V,A et,ay bK [U (z.n:Int),zL.val,aE z.word] 228,aS e2 233 2 v3 z.x.2]:=(by rw [←uJ]; exact b3);have bN:fq f dD (p' words q d)=fq f et (mQ q d z 0++mP q d mz):=No fY (fun al=>by first|exact CZ mG (qL.2 al.2)|exact C0 mG (qL.2 al.2)|exact absurd al.1 (by simp [*]));have cn:l' ok f et (mQ q d z 0++mP q d mz):=Np pB (fun al=>by first|exact CZ mG (qL.2 al.2)|exact C0 mG (qL.2 al.2)|exact absurd al.1 (by simp [*]));obtain ⟨g3,f10,ja,dG⟩:=bS.bW 4;refine .go 5 rfl ?_;refine .z (.ct underlying219 (f10.b9) rfl) ?_;refine .z (.h0 ((z.x.2.length:Int)-1) rfl rfl jF) ?_;have cQ:=(bS.dw [0,1,3,4,2]).cU;refine .ae 3 rfl ?_;refine dV (I:=fun m E W=>∃ (n1:Value) (mq:List hB) (i:Int) (k8:List ha) (kp:List (Value×List Pos)),E=[(0,jv),(1,mn),(2,U d),(3,.func (.func kP) first.toArray cap.toArray),(8,n1),(9,ptr bK 0),(12,v3),(13,U i)]∧m=(i+1).toNat∧au az F w0 W [aS rf 228 3 n1 mq,fe lC kp,ay bK [U (z.n:Int),zL.val,aE z.word] 228,aS e2 233 2 v3 z.x.2,A et]∧(c4 (nU q d s kp) mq k8)∧(∀ x∈V,x∈kp)∧(mP q d k8=mQ q d z (i+1).toNat++mP q d mz)∧(rb k8≤rb mz+re (g_ (fI z.x.1)) (i+1).toNat)∧(-1≤i∧i < (z.x.2.length:Int))) ?_ ?_
      · refine ⟨_,_,⟨(v2:Value),((hs.take (hs.length-1)):List hB),(((z.x.2.length:Int)-1):Int),(mz:List ha),(V:List (Value×List Pos)),rfl,rfl,cQ,(by exact cu),(by exact fun x ah=>ah),Kq,jF,jF⟩,bj⟩
      · rintro _ _ eK ⟨n1,mq,i,k8,kp,rfl,rfl,ck,sW,yo,Bw,DI,yg⟩ fP;refine .go 4 rfl ?_;refine .bh (.ge rfl rfl) (fun cr=>?_) fun cr=>?_
        · refine .ae 1 rfl ?_;obtain ⟨g4,f11,iy,g'⟩:=ck.bW 3;obtain ⟨x2,hf,hL,cJ,e0,mi,ey⟩:=aq.jq f11.b9 underlying219 eP lz (k:=.i64) (n:=i) ((i).toNat) jF aV;refine .go 8 rfl ?_;refine .z (.indexAddr rfl rfl e0) ?_;obtain ⟨fU,yj,ql,kK,lR,qB,oH,jL,F3⟩:=AO Gd w5 cJ;obtain ⟨vm,rfl,tt⟩:=Cx w5 Kt kK;have o0:fE x2.rune=eg fU.1:=(by rw [lR]; exact yP jL);have Bx:=xD fU.1;have O':(fE x2.rune).length≤4:=(by rw [o0]; exact Bx);have pN:0≤x2.rune∧x2.rune≤1114111:=(by rw [lR]; have:=jL.1; omega);have Gb:=IW (q:=q) (d:=d) kK;have oR:=IY kK;have Pa:=Fh fU.2;have Pb:=CY sW;have Pc:=I2 (g_ (fI z.x.1)) (i+1).toNat;refine .z (.cy eP rfl (fun _ e=>e▸ey) rfl) ?_;refine .ac (.alloc eP fun ff jU cG dt hc de=>?_);have dH:=(ck.cW cG dt de).n6;have f12:=dH.k 5;refine .ac (.store eP rfl rfl rfl rfl rfl f12 dj fun fm dg gZ e6=>?_);have eB:=(dH.c_ 5 dg e6.c2).n6;refine .go 5 rfl ?_;have f13:=eB.k 2;refine .a7 Fx Fu f13 ?_;have f14:=eB.k 5;refine .a7 rl hV f14 ?_;have f15:=eB.out dB ch;have f16:=eB.Fj (i:=1) rfl (yo _ Gg);refine .ac (.aH Ju rfl (Ki (w0:=fm) (q:=q) (s:=(fu q d (d_ z.word))) (d) (x2.rune) (f15.mono (fun b ab=>⟨Nat.zero_le _,Nat.lt_of_lt_of_le (dE b ab) eB.mod.size⟩)) cK f16 cK aV aV aV) ?_);rintro v4 hv ⟨⟨pQ,aB,eE⟩,dm⟩;have eF:=(eB.fD dm aB eE).n7;clear eE;obtain ⟨g5,f17,lX,i7⟩:=eF.bW 6;refine .go 5 rfl ?_;refine .ac (.aH Jv rfl (Kk (w0:=hv) (s:=(fQ (q.length+1) d (fJ d q (dY q.length d (fu q d (d_ z.word))) x2.rune)))  (f17.b9.cw (Nat.zero_le _) f17.lt)) ?_);rintro _ jl ⟨⟨kz,dy,rfl⟩,dP⟩;have ej:=eF.ext dP;cases kz
          case true =>
           replace dy:=dy.symm;refine .z (.not rfl) ?_;refine .go 6 rfl ?_;refine .z (.h0 (i-1) rfl rfl jF) ?_;have gw:=(ej.dw [0,1,2,3,4]).cU;refine .ae 2 rfl ?_;exact (fP _ _ _ ⟨(n1:Value),(mq:List hB),((i-1):Int),(k8:List ha),(kp:List (Value×List Pos)),rfl,rfl,gw,zJ,zI,zG,zH,zK⟩ jF).sub bj
          replace dy:=dy.symm;refine .z (.not rfl) ?_;refine .go 4 rfl ?_;have f18:=ej.k 5;refine .a7 rm aI f18 ?_;refine .go 1 rfl ?_;have f19:=ej.k 2;refine .a7 Fy dT f19 ?_;refine .a7 rl hV f18 ?_;refine .z (.vZ c0 underlying9 rfl) ?_;refine .z (.uX rfl rfl vI) ?_;obtain ⟨g6,f20,mj,pa⟩:=ej.bW 6;obtain ⟨eM,eN,kn⟩:=f20.shape;subst kn;refine .z (.build (vs:=#[(0,(U x2.to:Value)),(1,(.slice eM (fQ (q.length+1) d (fJ d q (dY q.length d (fu q d (d_ z.word))) x2.rune)).length eN)),(2,aE (z.word++(fE x2.rune)))]) (v:=.agg #[U x2.to,(.slice eM (fQ (q.length+1) d (fJ d q (dY q.length d (fu q d (d_ z.word))) x2.rune)).length eN),aE (z.word++(fE x2.rune))]) rfl (fun _=>by kernel_rfl)) ?_;refine .ac (.buildSlice [(.agg #[U x2.to,(.slice eM (fQ (q.length+1) d (fJ d q (dY q.length d (fu q d (d_ z.word))) x2.rune)).length eN),aE (z.word++(fE x2.rune))]:Value)] underlying229 sJ rfl rfl rfl b5 fun lK ny eV e1 kg gE=>?_);have kV:=aq.eD (enc:=rf) gE ([(hB.mk x2.to (cP.mk eM (fQ (q.length+1) d (fJ d q (dY q.length d (fu q d (d_ z.word))) x2.rune)).length eN) (z.word++(fE x2.rune)))]:List hB) 1 rfl rfl eU;have fs:=(ej.hI eV e1 kg kV).n8;obtain ⟨g8,f21,lY,oi⟩:=fs.bW 0;have f22:=fs.gh 7 0;refine .ac (.append f21 underlying229 sJ rfl A7 I0 rfl rfl (f22) ol fG fun v5 g7 oz dW gQ jS vK=>?_);have gM:=(oi _ _ _ _ gQ dW jS).n8;clear jS;have gD:=(gM.freeze (i:=6) rfl).n8;have iA:=(gD.aR [0,2,3,4,5,7] 1 6).n7;have iH:=(iA.ty (fe lC (kp++[((.slice eM (fQ (q.length+1) d (fJ d q (dY q.length d (fu q d (d_ z.word))) x2.rune)).length eN),(fQ (q.length+1) d (fJ d q (dY q.length d (fu q d (d_ z.word))) x2.rune)))])) 6 rfl (fun ec bP=>IZ bP)).n7;have Kl:=nU.push hd.1 sW dM me Gc (sh:=cP.mk eM (fQ (q.length+1) d (fJ d q (dY q.length d (fu q d (d_ z.word))) x2.rune)).length eN) (L:=(fQ (q.length+1) d (fJ d q (dY q.length d (fu q d (d_ z.word))) x2.rune))) (wd:=z.word++fE x2.rune) lR oH jL rfl (by rw [o0]) tt vX qB;refine .go 5 rfl ?_;refine .z (.h0 (i-1) rfl rfl jF) ?_;have k6:=(iH.dw [0,6,1,2,3]).cU;refine .ae 2 rfl ?_;exact (fP _ _ _ ⟨(v5:Value),((mq++[(hB.mk x2.to (cP.mk eM (fQ (q.length+1) d (fJ d q (dY q.length d (fu q d (d_ z.word))) x2.rune)).length eN) (z.word++(fE x2.rune)))]):List hB),((i-1):Int),((k8++[ha.mk yj (fU.2,ql) (z.word++eg fU.1)]):List ha),((kp++[((.slice eM (fQ (q.length+1) d (fJ d q (dY q.length d (fu q d (d_ z.word))) x2.rune)).length eN),(fQ (q.length+1) d (fJ d q (dY q.length d (fu q d (d_ z.word))) x2.rune)))]):List (Value×List Pos)),rfl,rfl,k6,zJ,zI,zG,zH,zK⟩ jF).sub bj
        refine .ae 1 rfl ?_;have dh:=(ck.dw [0,1,4]).cm;refine .ae 3 rfl ?_;exact (b4 _ _ _ ⟨(n1:Value),(mq:List hB),(k8:List ha),(kp:List (Value×List Pos)),(et:b8),rfl,rfl,dh,Ks,Kp,Ko,Kn,Km⟩ Kr).sub bj
     replace bs:=bs.symm;refine .go 23 rfl ?_;have f8:=bq.k 3;refine .a7 Fw aI f8 ?_;have f9:=hy.A6 p6 bq.mod Gf;refine .ac (.aH De rfl (Dj (w0:=c7)  (z.n:Int) f9 (Nat.le_trans p3 bq.mod.size) cK Ge (by first|assumption|(simp; done))) ?_);rintro v3 dA ⟨⟨ig,ag,b_⟩,b'⟩;have b3:=(bq.fD b' ag b_).cU;clear b_;have uJ:(nodeAt (fW s) (z.n:Int)).2=z.x.2:=(by rw [qa]);have vL:=Cw iz (z.n:Int);rw [uJ] at vL;have bS:au az F w0 dA [aS rf 228 3 v2 (hs.take (hs.length-1)),fe lC V,A et,ay bK [U (z.n:Int),zL.val,aE z.word] 228,aS e2 233 2 v3 z.x.2]:=(by rw [←uJ]; exact b3);have bN:fq f dD (p' words q d)=fq f et (mQ q d z 0++mP q d mz):=No fY (fun al=>by first|exact CZ mG (qL.2 al.2)|exact C0 mG (qL.2 al.2)|exact absurd al.1 (by simp [*]));have cn:l' ok f et (mQ q d z 0++mP q d mz):=Np pB (fun al=>by first|exact CZ mG (qL.2 al.2)|exact C0 mG (qL.2 al.2)|exact absurd al.1 (by simp [*]));obtain ⟨g3,f10,ja,dG⟩:=bS.bW 4;refine .go 5 rfl ?_;refine .z (.ct underlying219 (f10.b9) rfl) ?_;refine .z (.h0 ((z.x.2.length:Int)-1) rfl rfl jF) ?_;have cQ:=(bS.dw [0,1,3,4,2]).cU;refine .ae 3 rfl ?_;refine dV (I:=fun m E W=>∃ (n1:Value) (mq:List hB) (i:Int) (k8:List ha) (kp:List (Value×List Pos)),E=[(0,jv),(1,mn),(2,U d),(3,.func (.func kP) first.toArray cap.toArray),(8,n1),(9,ptr bK 0),(12,v3),(13,U i)]∧m=(i+1).toNat∧au az F w0 W [aS rf 228 3 n1 mq,fe lC kp,ay bK [U (z.n:Int),zL.val,aE z.word] 228,aS e2 233 2 v3 z.x.2,A et]∧(c4 (nU q d s kp) mq k8)∧(∀ x∈V,x∈kp)∧(mP q d k8=mQ q d z (i+1).toNat++mP q d mz)∧(rb k8≤rb mz+re (g_ (fI z.x.1)) (i+1).toNat)∧(-1≤i∧i < (z.x.2.length:Int))) ?_ ?_
     · refine ⟨_,_,⟨(v2:Value),((hs.take (hs.length-1)):List hB),(((z.x.2.length:Int)-1):Int),(mz:List ha),(V:List (Value×List Pos)),rfl,rfl,cQ,(by exact cu),(by exact fun x ah=>ah),Kq,jF,jF⟩,bj⟩
     · rintro _ _ eK ⟨n1,mq,i,k8,kp,rfl,rfl,ck,sW,yo,Bw,DI,yg⟩ fP;refine .go 4 rfl ?_;refine .bh (.ge rfl rfl) (fun cH=>?_) fun cH=>?_
       · refine .ae 1 rfl ?_;obtain ⟨g4,f11,iy,g'⟩:=ck.bW 3;obtain ⟨x2,hb,hL,cJ,e0,mi,ey⟩:=aq.jq f11.b9 underlying219 eP lz (k:=.i64) (n:=i) ((i).toNat) jF aV;refine .go 8 rfl ?_;refine .z (.indexAddr rfl rfl e0) ?_;obtain ⟨fU,yj,ql,kK,lR,qB,oH,jL,F3⟩:=AO Gd w5 cJ;obtain ⟨vm,rfl,tt⟩:=Cx w5 Kt kK;have o0:fE x2.rune=eg fU.1:=(by rw [lR]; exact yP jL);have Bx:=xD fU.1;have O':(fE x2.rune).length≤4:=(by rw [o0]; exact Bx);have pN:0≤x2.rune∧x2.rune≤1114111:=(by rw [lR]; have:=jL.1; omega);have Gb:=IW (q:=q) (d:=d) kK;have oR:=IY kK;have Pa:=Fh fU.2;have Pb:=CY sW;have Pc:=I2 (g_ (fI z.x.1)) (i+1).toNat;refine .z (.cy eP rfl (fun _ e=>e▸ey) rfl) ?_;refine .ac (.alloc eP fun ff hf cG cr hc de=>?_);have dH:=(ck.cW cG cr de).n6;have f12:=dH.k 5;refine .ac (.st eP f12 fun fm dg e6=>?_);have eB:=(dH.c_ 5 dg e6.c2).n6;refine .go 5 rfl ?_;have f13:=eB.k 2;refine .a7 Fx Fu f13 ?_;have f14:=eB.k 5;refine .a7 rl hV f14 ?_;have f15:=eB.out dB ch;have f16:=eB.Fj (i:=1) rfl (yo _ Gg);refine .ac (.aH Ju rfl (Ki (w0:=fm) (q:=q) (s:=(fu q d (d_ z.word))) (d) (x2.rune) (f15.mono (fun b ab=>⟨Nat.zero_le _,Nat.lt_of_lt_of_le (dE b ab) eB.mod.size⟩)) cK f16 cK aV aV aV) ?_);rintro v4 hv ⟨⟨pQ,aB,eE⟩,dm⟩;have eF:=(eB.fD dm aB eE).n7;clear eE;obtain ⟨g5,f17,lX,i7⟩:=eF.bW 6;refine .go 5 rfl ?_;refine .ac (.aH Jv rfl (Kk (w0:=hv) (s:=(fQ (q.length+1) d (fJ d q (dY q.length d (fu q d (d_ z.word))) x2.rune)))  (f17.b9.cw (Nat.zero_le _) f17.lt)) ?_);rintro _ jl ⟨⟨jU,dt,rfl⟩,dP⟩;have ej:=eF.ext dP;cases jU
         case true =>
          replace dt:=dt.symm;refine .z (.not rfl) ?_;refine .go 6 rfl ?_;refine .z (.h0 (i-1) rfl rfl jF) ?_;have gw:=(ej.dw [0,1,2,3,4]).cU;refine .ae 2 rfl ?_;exact (fP _ _ _ ⟨(n1:Value),(mq:List hB),((i-1):Int),(k8:List ha),(kp:List (Value×List Pos)),rfl,rfl,gw,zJ,zI,zG,zH,zK⟩ jF).sub bj
         replace dt:=dt.symm;refine .z (.not rfl) ?_;refine .go 4 rfl ?_;have f18:=ej.k 5;refine .a7 rm aI f18 ?_;refine .go 1 rfl ?_;have f19:=ej.k 2;refine .a7 Fy dT f19 ?_;refine .a7 rl hV f18 ?_;refine .z (.vZ c0 underlying9 rfl) ?_;refine .z (.uX rfl rfl vI) ?_;obtain ⟨g6,f20,mj,pa⟩:=ej.bW 6;obtain ⟨eM,eN,kn⟩:=f20.shape;subst kn;refine .z (.build (vs:=#[(0,(U x2.to:Value)),(1,(.slice eM (fQ (q.length+1) d (fJ d q (dY q.length d (fu q d (d_ z.word))) x2.rune)).length eN)),(2,aE (z.word++(fE x2.rune)))]) (v:=.agg #[U x2.to,(.slice eM (fQ (q.length+1) d (fJ d q (dY q.length d (fu q d (d_ z.word))) x2.rune)).length eN),aE (z.word++(fE x2.rune))]) rfl (fun _=>by kernel_rfl)) ?_;refine .ac (.buildSlice [(.agg #[U x2.to,(.slice eM (fQ (q.length+1) d (fJ d q (dY q.length d (fu q d (d_ z.word))) x2.rune)).length eN),aE (z.word++(fE x2.rune))]:Value)] underlying229 sJ rfl rfl rfl b5 fun lK kz eV dy kg gE=>?_);have kV:=aq.eD (enc:=rf) gE ([(hB.mk x2.to (cP.mk eM (fQ (q.length+1) d (fJ d q (dY q.length d (fu q d (d_ z.word))) x2.rune)).length eN) (z.word++(fE x2.rune)))]:List hB) 1 rfl rfl eU;have fs:=(ej.hI eV dy kg kV).n8;obtain ⟨g8,f21,lY,oi⟩:=fs.bW 0;have f22:=fs.gh 7 0;refine .ac (.append f21 underlying229 sJ rfl A7 I0 rfl rfl (f22) ol fG fun v5 g7 oz dW gQ jS vK=>?_);have gM:=(oi _ _ _ _ gQ dW jS).n8;clear jS;have gD:=(gM.freeze (i:=6) rfl).n8;have iA:=(gD.aR [0,2,3,4,5,7] 1 6).n7;have iH:=(iA.ty (fe lC (kp++[((.slice eM (fQ (q.length+1) d (fJ d q (dY q.length d (fu q d (d_ z.word))) x2.rune)).length eN),(fQ (q.length+1) d (fJ d q (dY q.length d (fu q d (d_ z.word))) x2.rune)))])) 6 rfl (fun ec bP=>IZ bP)).n7;have Kl:=nU.push hd.1 sW dM me Gc (sh:=cP.mk eM (fQ (q.length+1) d (fJ d q (dY q.length d (fu q d (d_ z.word))) x2.rune)).length eN) (L:=(fQ (q.length+1) d (fJ d q (dY q.length d (fu q d (d_ z.word))) x2.rune))) (wd:=z.word++fE x2.rune) lR oH jL rfl (by rw [o0]) tt vX qB;refine .go 5 rfl ?_;refine .z (.h0 (i-1) rfl rfl aa) ?_;have k6:=(iH.dw [0,6,1,2,3]).cU;refine .ae 2 rfl ?_;exact (fP _ _ _ ⟨(v5:Value),((mq++[(hB.mk x2.to (cP.mk eM (fQ (q.length+1) d (fJ d q (dY q.length d (fu q d (d_ z.word))) x2.rune)).length eN) (z.word++(fE x2.rune)))]):List hB),((i-1):Int),((k8++[ha.mk yj (fU.2,ql) (z.word++eg fU.1)]):List ha),((kp++[((.slice eM (fQ (q.length+1) d (fJ d q (dY q.length d (fu q d (d_ z.word))) x2.rune)).length eN),(fQ (q.length+1) d (fJ d q (dY q.length d (fu q d (d_ z.word))) x2.rune)))]):List (Value×List Pos)),rfl,rfl,k6,zJ,zI,zG,zH,zK⟩ jF).sub bj
       refine .ae 1 rfl ?_;have dh:=(ck.dw [0,1,4]).cm;refine .ae 3 rfl ?_;exact (b4 _ _ _ ⟨(n1:Value),(mq:List hB),(k8:List ha),(kp:List (Value×List Pos)),(et:b8),rfl,rfl,dh,Ks,Kp,Ko,Kn,Km⟩ Kr).sub bj
   refine .ae 3 rfl ?_;refine kN func100 rfl ?_;have bo:=(bc.dw [2]).cj;have oC:(fq f dD (p' words q d)).1=et:=(by first|(rw [We fY ⟨Al,qL.1 (Fl mG mG)⟩ mG]; done)|(rw [fY,Wi v8 jF]; rfl));obtain ⟨cD,cX,cY,cR⟩:=bo.fin;exact ao.mk ⟨rfl,cD,cX,oC▸cY,cR⟩
end Go.Proofs
namespace Go.Proofs
open Tryz
open Go.aF Go.ak
theorem alz{w0:World}{a:b6}{b:b6}:
 bG 90 #[.agg #[U a.cq,aE a.word],.agg #[U b.cq,aE b.word]] w0 (ao λaC ai=>aC=U (ak.Nr a b)/\Ext w0 ai):=by
 have bA:=ew w0;refine bQ func90 rfl ntmps90 rfl (.go 2 rfl (.ac (.box [U a.cq,aE a.word] rfl rfl λai aK av aG cu aW=>have bJ:=bA.ext av;.ac (.box [U b.cq,aE b.word] rfl rfl λaZ aR aA aJ ef bR=>have f1:=aW.ext aA;have bN:=bJ.ext aA;.ae 3 rfl (eR (λi=>Nat.beq i 4 || Nat.beq i 9 || Nat.beq i 10 || Nat.beq i 11) 13 (λan=>Mod (ca 0) aZ an) mixed λbp aO=>have cn:=bN.ext aO;have jD:Mod (ca 0) aZ bp:=Mod.ga aO;⟨jD,?_⟩)))));refine .z rfl (.fieldAddr x4 rfl) (.z rfl (.cd aI rfl (λ_ al=>(f1.cell 0 _ rfl).bD al aa)) (.z rfl (.fieldAddr x4 rfl) (.z rfl (.cd aI rfl (λ_ al=>(bR.cell 0 _ rfl).bD al aa)) (.ac rfl (.aH XE rfl (XV (w0:=bp)  (a.cq) (b.cq) ) ?_)))));rintro _ bZ ⟨rfl,aY⟩;have eL:=cn.ext aY;have ju:=jD.ext aY;refine⟨.inr ju,.z rfl (.fieldAddr Bb rfl) (.z rfl (.cd dT rfl (λ_ al=>(f1.cell 1 _ rfl).bD al aa)) (.z rfl (.fieldAddr Bb rfl) (.z rfl (.cd dT rfl (λ_ al=>(bR.cell 1 _ rfl).bD al aa)) (.ac rfl (.aH NZ rfl (N8 (w0:=bZ)  a.word b.word ) ?_)))))⟩;rintro _ cM ⟨rfl,bu,nv⟩;have fL:=eL.ext bu;have mD:=ju.ext bu;refine⟨.inr mD,.ac rfl (.buildSlice [(U (ak.pw a.cq b.cq):Value),(U (Lib.compareBytes a.word b.word):Value)] underlying57 aI rfl rfl rfl b5 λc7 bx b' aX fH cT=>have iG:=fL.ext b';have lU:=mD.ext b';⟨.inr lU,(have cA:=aq.eD (enc:=aF.encI) cT ([(ak.pw a.cq b.cq),(Lib.compareBytes a.word b.word)]:List Int) 2 rfl rfl eU;.ac rfl (.aH XD rfl (XW (w0:=c7) (vals:=[(ak.pw a.cq b.cq),(Lib.compareBytes a.word b.word)])  ((cA).cw (Nat.zero_le _) aa)) ?_))⟩)⟩;rintro _ dA ⟨rfl,cG⟩;have ko:=iG.ext cG;have lq:=lU.ext cG;exact⟨.inr lq,.gd 1 rfl (.nil (aM func90 rfl rfl (ao.mk ⟨(cV dz),ko⟩)))⟩
theorem alA{w0:World}{a:b6}{b:b6}:
 bG 44 #[.agg #[U a.cq,aE a.word],.agg #[U b.cq,aE b.word]] w0 (ao λaC ai=>(∃cv:Bool,cv=(ak.oq a b)/\aC=.bool cv)/\Ext w0 ai):=by
 have bA:=ew w0;refine bQ func44 rfl ntmps44 rfl (.go 2 rfl (.ac (.box [U a.cq,aE a.word] rfl rfl λai aK av aG cu aW=>have bJ:=bA.ext av;.ac (.box [U b.cq,aE b.word] rfl rfl λaZ aR aA aJ ef bR=>have f1:=aW.ext aA;have bN:=bJ.ext aA;.go 4 rfl (.z (.cy gB rfl (λ_ e=>e▸f1.row) rfl) ?_)))));refine .z (.cy gB rfl (λ_ e=>e▸bR.row) rfl) ?_;refine .ac (.aH ai6 rfl (alz (w0:=aZ) (a:=a) (b:=b)  ) ?_);rintro _ bp ⟨rfl,aO⟩;have cn:=bN.ext aO;exact .dN (.lt rfl rfl) λbx aX=>.ae 2 rfl (aM func44 rfl rfl (ao.mk ⟨⟨_,(by first|simp only[ak.oq, *]|(exfalso;omega)),rfl⟩,cn⟩))
end Go.Proofs
namespace Go.Proofs
open Tryz
open Go.aF Go.ak
theorem w6{p:Prop}(h:p:=by first|exact ahD (by first|exact Wj|exact Wk aa|exact Wl bd)|(symm;exact(by first|exact Wj|exact Wk aa|exact Wl bd))|exact ahE (I3 bd aa bd)|(rw[(I3 bd aa bd),<-I4 (s:=s) bd];assumption)|(exfalso;omega)):p:=h
theorem YE{p:Prop}(h:p:=by omega):p:=h
theorem alB{w0:World}{jv:Value}{gV fb:Nat}{g:List cx}(s:aj)(k:Int)(qH:hy 0 w0 gV fb jv g)(x9:fb<=w0.heap.size)(ym:bY k)(aT:s.length<=1000000):
 bG 99 #[jv,aE s,U k] w0 (ao λaC ai=>∃eS gl,aC=.tuple #[eS,gl]/\aq iM ai (dr w0.heap.size ai.heap.size) eS (jj g s k)/\(∃cv:Bool,cv=(pH g s k)/\gl=.bool cv)/\Ext w0 ai):=by
 have bA:=ew w0;refine bQ func99 rfl ntmps99 rfl (have pN:=qH;.go 9 rfl ?_);rcases qH with ⟨eb,r5⟩|⟨aK,x_,iR,eb,r5,Dh,Di,x'⟩
 . subst eb;try subst r5
   exact .z (.oe underlying99 rfl rfl) (.ae 20 rfl (cO func99 rfl rfl rfl (ao.mk ⟨_,_,rfl,(aq.cast aq.nil w6),⟨_,w6,rfl⟩,bA⟩)))
 . subst eb;refine .z (.oe underlying99 rfl rfl) (.go 2 rfl (.bh (.lt rfl rfl) (λaG=>?_) λaG=>?_))
   . exact .ae 17 rfl (cO func99 rfl rfl rfl (ao.mk ⟨_,_,rfl,(aq.cast aq.nil w6),⟨_,w6,rfl⟩,bA⟩))
   refine .go 3 rfl (.bh (.gt rfl rfl) (λaJ=>?_) λaJ=>?_)
   . exact .ae 13 rfl (cO func99 rfl rfl rfl (ao.mk ⟨_,_,rfl,(aq.cast aq.nil w6),⟨_,w6,rfl⟩,bA⟩))
   refine .go 3 rfl (.ac (.aH N1 rfl (N_ (w0:=w0)  s aV) ?_));rintro _ ai ⟨⟨bK,aX,rfl⟩,av⟩;have bJ:=bA.ext av;have hl:=av.size;cases bK
   case true =>
    replace aX:=aX.symm;refine .z (.not rfl) (.go 7 rfl (.ac (.aH ajd rfl (ajO (w0:=ai)  s (by first|assumption|omega|(simp;done))) ?_)));rintro _ aZ ⟨v1,_,rfl,h1,⟨cC,bs,rfl⟩,aA⟩;have bN:=bJ.ext aA;exact .ae 5 rfl (cO func99 rfl rfl rfl (ao.mk ⟨_,_,rfl,(aq.cast (h1.cw YE YE) w6),⟨_,w6,rfl⟩,bN⟩))
   replace aX:=aX.symm;exact .z (.not rfl) (.ae 8 rfl (cO func99 rfl rfl rfl (ao.mk ⟨_,_,rfl,(aq.cast aq.nil w6),⟨_,w6,rfl⟩,bJ⟩)))
theorem ry{p:Prop}(h:p:=by first|exact .inl rfl|exact .inr bd):p:=h
theorem nC{p:Prop}(h:p:=by assumption):p:=h
theorem alC{w0:World}{F:Nat->Prop}{e_ e8 df rz pz kG:Nat}{l:List b6}{more:Bool}(x:aj)(d batch:Int)(first:Bool)(after:b6)(hd:bY d)(YF:bY batch)(Ku:bY after.cq)(By:after.word.length<=1000000)(bg:(bl (R:=az) [qC (R:=az) 47 33 4 e_ e8 (l,more),ay df [U d] 3,ay rz [.bool first] 4,ay pz [U after.cq,aE after.word] 33,ay kG [U batch] 3]).p F w0)(br:∀b,F b->b<w0.heap.size)(FD:l.length<=1000000):
 bG 101 #[aE x,ptr df 0,ptr rz 0,ptr pz 0,ptr e_ 0,ptr kG 0,ptr e8 0] w0 (ao λaC ai=>aC=.bool (mA first after batch d (l,more) x).2/\Mod F w0 ai/\∃bw,(bl (R:=az) [qC (R:=az) 47 33 4 e_ e8 ((mA first after batch d (l,more) x).1),ay df [U d] 3,ay rz [.bool first] 4,ay pz [U after.cq,aE after.word] 33,ay kG [U batch] 3]).p bw ai/\∀b,bw b->b<ai.heap.size/\(F b\/w0.heap.size<=b)):=by
 have dU:=au.ht bg (λb ab=>⟨br b ab,id⟩) (λ_ h=>h.elim);have bt:=(dU.u 0 []).cU;obtain⟨fM,a1⟩:=bt.fK 0;change au az F w0 w0 [bl [ay e_ [fM] 47,aS eJ 33 2 fM ((l,more).1),ay e8 [.bool (l,more).2] 4],ay df [U d] 3,ay rz [.bool first] 4,ay pz [U after.cq,aE after.word] 33,ay kG [U batch] 3] at a1;have bb:=(a1.u 0 [1,2,3,4]).n7;have a6:au az F w0 w0 [ay df [U d] 3,ay rz [.bool first] 4,ay pz [U after.cq,aE after.word] 33,ay kG [U batch] 3,ay e_ [fM] 47,aS eJ 33 2 fM l,ay e8 [.bool more] 4]:=bb;refine bQ func101 rfl ntmps101 rfl (have f1:=a6.k 0;.go 6 rfl (.z (.fX aI f1) ?_));refine .go 1 rfl (.z (.build (vs:=#[(0,(U d:Value)),(1,aE x)]) (v:=.agg #[U d,aE x]) rfl (λ_=>by kernel_rfl)) (.ac (.alloc gB λai aK av aG cu aW=>?_)));have ba:=(a6.cW av aG aW).n8;have f2:=ba.k 7;refine .ac (.st gB f2 λaZ aA bR=>?_);have bo:=(ba.c_ 7 aA bR.c2).n8;have f3:=bo.k 1;refine .go 5 rfl (.z (.fX fj f3) ?_)
 cases first
 case true =>
  refine .z (.not rfl) (have f4:=bo.k 4;.go 11 rfl (.z (.fX tz f4) ?_));obtain⟨g1,f5,cA,bF⟩:=bo.bW 5;refine .z (.ct underlying47 (f5.b9) rfl) (have f6:=bo.k 3;.z (.fX aI f6) (.gg (.eq rfl rfl) (λaJ=>?_) λaJ=>?_))
  . refine .ae 2 rfl (have f7:=bo.k 6;.go 2 rfl (.ac (.store fj rfl rfl rfl rfl rfl f7 dj λbp aO fH cT=>?_)));have bL:=(bo.c_ 6 aO cT.c1).n8;have f8:=bL.k 6;refine .go 4 rfl (.z (.fX fj f8) (.z (.not rfl) ?_));refine .ae 2 rfl (aM func101 rfl rfl ?_);have bB:=(bL.bx [0,1,2,3,7] 4 5 6).n6;have bI:au az F w0 bp [ay df [U d] 3,ay rz [.bool true] 4,ay pz [U after.cq,aE after.word] 33,ay kG [U batch] 3,ay aK [U d,aE x] 33,qC 47 33 4 e_ e8 (l,true)]:=bB.fC fM (i:=5) rfl;have bq:=(bI.cC [4] 5 0 1 2 3).bO;have bM:=(bq.dw [1]).cj;obtain⟨cD,cX,cY,cR⟩:=bM.fin;have n2:mA true after batch d (l,more) x=((l,true),false):=(by first|exact xS nC|exact xT ry nC|exact xU ry nC);exact ao.mk ⟨by rw[n2];rfl,cD,cX,by rw[n2];exact cY,cR⟩
  refine .go 4 rfl (.z (.fX tz f4) (have f7:=bo.k 7;.z (.cy gB rfl (λ_ e=>e▸f7.row) rfl) ?_));refine .ac (.buildSlice [(.agg #[U d,aE x]:Value)] underlying47 gB rfl rfl rfl b5 λbp bx aO aX fH cT=>?_);have dp:=aq.eD (enc:=eJ) cT ([(b6.mk d x)]:List b6) 1 rfl rfl eU;have bB:=(bo.hI aO aX fH dp).ix;obtain⟨g3,f8,fa,cB⟩:=bB.bW 5;have f9:=bB.gh 8 0;refine .ac (.append f8 underlying47 gB rfl oK wF rfl rfl (f9) ol fG λv1 g2 bZ cf aY b_ hc=>?_);have bI:=(cB _ _ _ _ aY cf b_).ix;clear b_;obtain⟨g4,f10,gI,dG⟩:=bI.bW 5;obtain⟨b1,b2,eb⟩:=f10.shape;subst eb;have f11:=bI.k 4;refine .ac (.store tz rfl rfl rfl rfl rfl f11 dj λcM bu gZ de=>have bq:=(bI.c_ 4 bu de.c1).ix;have f12:=bq.k 6;.go 4 rfl (.z (.fX fj f12) ?_));cases more
  case true =>
   refine .z (.not rfl) (.ae 2 rfl (aM func101 rfl rfl ?_));have bM:=(bq.bx [0,1,2,3,7,8] 4 5 6).n7;have b3:au az F w0 cM [ay df [U d] 3,ay rz [.bool true] 4,ay pz [U after.cq,aE after.word] 33,ay kG [U batch] 3,ay aK [U d,aE x] 33,fe eJ [((.slice (some ⟨bx,0,none⟩) 1 1),[(b6.mk d x)])],qC 47 33 4 e_ e8 ((l++[(b6.mk d x)]),true)]:=bM.fC (.slice b1 (l++[(b6.mk d x)]).length b2) (i:=6) rfl;have bS:=(b3.cC [4,5] 6 0 1 2 3).cm;have ck:=(bS.dw [2]).cj;obtain⟨cD,cX,cY,cR⟩:=ck.fin;have n2:mA true after batch d (l,true) x=(((l++[(b6.mk d x)]),true),false):=(by first|exact xS nC|exact xT ry nC|exact xU ry nC);exact ao.mk ⟨by rw[n2];rfl,cD,cX,by rw[n2];exact cY,cR⟩
  refine .z (.not rfl) (.ae 2 rfl (aM func101 rfl rfl ?_));have bM:=(bq.bx [0,1,2,3,7,8] 4 5 6).n7;have b3:au az F w0 cM [ay df [U d] 3,ay rz [.bool true] 4,ay pz [U after.cq,aE after.word] 33,ay kG [U batch] 3,ay aK [U d,aE x] 33,fe eJ [((.slice (some ⟨bx,0,none⟩) 1 1),[(b6.mk d x)])],qC 47 33 4 e_ e8 ((l++[(b6.mk d x)]),false)]:=bM.fC (.slice b1 (l++[(b6.mk d x)]).length b2) (i:=6) rfl;have bS:=(b3.cC [4,5] 6 0 1 2 3).cm;have ck:=(bS.dw [2]).cj;obtain⟨cD,cX,cY,cR⟩:=ck.fin;have n2:mA true after batch d (l,false) x=(((l++[(b6.mk d x)]),false),true):=(by first|exact xS nC|exact xT ry nC|exact xU ry nC);exact ao.mk ⟨by rw[n2];rfl,cD,cX,by rw[n2];exact cY,cR⟩
 refine .z (.not rfl) (have f4:=bo.k 2;.go 1 rfl (.z (.cy gB rfl (λ_ e=>e▸f4.row) rfl) ?_));have f5:=bo.k 7;refine .z (.cy gB rfl (λ_ e=>e▸f5.row) rfl) ?_;refine .ac (.aH ai0 rfl (alA (w0:=aZ) (a:=(b6.mk after.cq after.word)) (b:=(b6.mk d x))  ) ?_);rintro _ bp ⟨⟨aR,aJ,rfl⟩,aO⟩;have bL:=bo.ext aO;cases aR
 case true =>
  replace aJ:=aJ.symm;refine .z (.not rfl) (have f6:=bL.k 4;.go 6 rfl (.z (.fX tz f6) ?_));obtain⟨g1,f7,cA,bF⟩:=bL.bW 5;refine .z (.ct underlying47 (f7.b9) rfl) (have f8:=bL.k 3;.z (.fX aI f8) (.gg (.eq rfl rfl) (λaX=>?_) λaX=>?_))
  . refine .ae 2 rfl (have f9:=bL.k 6;.go 2 rfl (.ac (.store fj rfl rfl rfl rfl rfl f9 dj λbZ aY fH cT=>?_)));have bB:=(bL.c_ 6 aY cT.c1).n8;have f10:=bB.k 6;refine .go 4 rfl (.z (.fX fj f10) (.z (.not rfl) ?_));refine .ae 2 rfl (aM func101 rfl rfl ?_);have bI:=(bB.bx [0,1,2,3,7] 4 5 6).n6;have bq:au az F w0 bZ [ay df [U d] 3,ay rz [.bool false] 4,ay pz [U after.cq,aE after.word] 33,ay kG [U batch] 3,ay aK [U d,aE x] 33,qC 47 33 4 e_ e8 (l,true)]:=bI.fC fM (i:=5) rfl;have bM:=(bq.cC [4] 5 0 1 2 3).bO;have b3:=(bM.dw [1]).cj;obtain⟨cD,cX,cY,cR⟩:=b3.fin;have n2:mA false after batch d (l,more) x=((l,true),false):=(by first|exact xS nC|exact xT ry nC|exact xU ry nC);exact ao.mk ⟨by rw[n2];rfl,cD,cX,by rw[n2];exact cY,cR⟩
  refine .go 4 rfl (.z (.fX tz f6) (have f9:=bL.k 7;.z (.cy gB rfl (λ_ e=>e▸f9.row) rfl) ?_));refine .ac (.buildSlice [(.agg #[U d,aE x]:Value)] underlying47 gB rfl rfl rfl b5 λbZ bK aY bs fH cT=>?_);have dp:=aq.eD (enc:=eJ) cT ([(b6.mk d x)]:List b6) 1 rfl rfl eU;have bI:=(bL.hI aY bs fH dp).ix;obtain⟨g3,f10,fa,cB⟩:=bI.bW 5;have f11:=bI.gh 8 0;refine .ac (.append f10 underlying47 gB rfl oK wF rfl rfl (f11) ol fG λv1 g2 cM cf bu b_ hc=>?_);have bq:=(cB _ _ _ _ bu cf b_).ix;clear b_;obtain⟨g4,f12,gI,dG⟩:=bq.bW 5;obtain⟨b1,b2,eb⟩:=f12.shape;subst eb;have f13:=bq.k 4;refine .ac (.st tz f13 λc7 b' de=>?_);have bM:=(bq.c_ 4 b' de.c1).ix;have f14:=bM.k 6;refine .go 4 rfl (.z (.fX fj f14) ?_);cases more
  case true =>
   refine .z (.not rfl) (.ae 2 rfl (aM func101 rfl rfl ?_));have b3:=(bM.bx [0,1,2,3,7,8] 4 5 6).n7;have bS:au az F w0 c7 [ay df [U d] 3,ay rz [.bool false] 4,ay pz [U after.cq,aE after.word] 33,ay kG [U batch] 3,ay aK [U d,aE x] 33,fe eJ [((.slice (some ⟨bK,0,none⟩) 1 1),[(b6.mk d x)])],qC 47 33 4 e_ e8 ((l++[(b6.mk d x)]),true)]:=b3.fC (.slice b1 (l++[(b6.mk d x)]).length b2) (i:=6) rfl;have ck:=(bS.cC [4,5] 6 0 1 2 3).cm;have cQ:=(ck.dw [2]).cj;obtain⟨cD,cX,cY,cR⟩:=cQ.fin;have n2:mA false after batch d (l,true) x=(((l++[(b6.mk d x)]),true),false):=(by first|exact xS nC|exact xT ry nC|exact xU ry nC);exact ao.mk ⟨by rw[n2];rfl,cD,cX,by rw[n2];exact cY,cR⟩
  refine .z (.not rfl) (.ae 2 rfl (aM func101 rfl rfl ?_));have b3:=(bM.bx [0,1,2,3,7,8] 4 5 6).n7;have bS:au az F w0 c7 [ay df [U d] 3,ay rz [.bool false] 4,ay pz [U after.cq,aE after.word] 33,ay kG [U batch] 3,ay aK [U d,aE x] 33,fe eJ [((.slice (some ⟨bK,0,none⟩) 1 1),[(b6.mk d x)])],qC 47 33 4 e_ e8 ((l++[(b6.mk d x)]),false)]:=b3.fC (.slice b1 (l++[(b6.mk d x)]).length b2) (i:=6) rfl;have ck:=(bS.cC [4,5] 6 0 1 2 3).cm;have cQ:=(ck.dw [2]).cj;obtain⟨cD,cX,cY,cR⟩:=cQ.fin;have n2:mA false after batch d (l,false) x=(((l++[(b6.mk d x)]),false),true):=(by first|exact xS nC|exact xT ry nC|exact xU ry nC);exact ao.mk ⟨by rw[n2];rfl,cD,cX,by rw[n2];exact cY,cR⟩
 replace aJ:=aJ.symm;refine .z (.not rfl) (have f6:=bL.k 6;.go 8 rfl (.z (.fX fj f6) ?_));cases more
 case true =>
  refine .z (.not rfl) (.ae 2 rfl (aM func101 rfl rfl ?_));have bB:=(bL.bx [0,1,2,3,7] 4 5 6).n6;have bI:au az F w0 bp [ay df [U d] 3,ay rz [.bool false] 4,ay pz [U after.cq,aE after.word] 33,ay kG [U batch] 3,ay aK [U d,aE x] 33,qC 47 33 4 e_ e8 (l,true)]:=bB.fC fM (i:=5) rfl;have bq:=(bI.cC [4] 5 0 1 2 3).bO;have bM:=(bq.dw [1]).cj;obtain⟨cD,cX,cY,cR⟩:=bM.fin;have n2:mA false after batch d (l,true) x=((l,true),false):=(by first|exact xS nC|exact xT ry nC|exact xU ry nC);exact ao.mk ⟨by rw[n2];rfl,cD,cX,by rw[n2];exact cY,cR⟩
 refine .z (.not rfl) (.ae 2 rfl (aM func101 rfl rfl ?_));have bB:=(bL.bx [0,1,2,3,7] 4 5 6).n6;have bI:au az F w0 bp [ay df [U d] 3,ay rz [.bool false] 4,ay pz [U after.cq,aE after.word] 33,ay kG [U batch] 3,ay aK [U d,aE x] 33,qC 47 33 4 e_ e8 (l,false)]:=bB.fC fM (i:=5) rfl;have bq:=(bI.cC [4] 5 0 1 2 3).bO;have bM:=(bq.dw [1]).cj;obtain⟨cD,cX,cY,cR⟩:=bM.fin;have n2:mA false after batch d (l,false) x=((l,false),true):=(by first|exact xS nC|exact xT ry nC|exact xU ry nC);exact ao.mk ⟨by rw[n2];rfl,cD,cX,by rw[n2];exact cY,cR⟩
theorem alD(e_ e8 df rz pz kG:Nat)(d batch:Int)(first:Bool)(after:b6)(hd:bY d)(YF:bY batch)(Ku:bY after.cq)(By:after.word.length<=1000000):Wd Tryz.prog 101 [] [ptr df 0,ptr rz 0,ptr pz 0,ptr e_ 0,ptr kG 0,ptr e8 0] (λs:List b6×Bool=>bl [qC 47 33 4 e_ e8 s,ay df [U d] 3,ay rz [.bool first] 4,ay pz [U after.cq,aE after.word] 33,ay kG [U batch] 3]) (λs _=>s.1.length<=1000000) (mA first after batch d) where
 cl:=by kernel_rfl
 call:=λs F w x h br bX=>alC (l:=s.1) (more:=s.2) x d batch first after hd YF Ku By h br bX
theorem zM{p:Prop}(h:p:=by first|(rw[Wn bd];done)|(rw[Wn bd])|exact Ws Bi (n:=jJ+1) (.inl ⟨by assumption,by omega⟩) bd|exact Ws Bi (n:=jJ) (.inr aa) bd|(rw[Nu Bi (n:=jJ+1) (.inl ⟨by assumption,by omega⟩)])|(rw[Nu Bi (n:=jJ) (.inr aa)])|(exfalso;omega)):p:=h
theorem zN{p:Prop}(h:p:=by omega):p:=h
theorem alE{w0:World}{s:c6}{mH:List aj}{jv:Value}{gV fb:Nat}{g:List cx}(kB:aj)(k:Int)(first:Bool){after:b6}(batch:Int)(qH:hy 0 w0 gV fb jv g)(x9:fb<=w0.heap.size)(ym:bY k)(alF:bY batch)(bX:uf g s mH)(tC:mH.length<=1000)(aT:kB.length<=1000000)(Ku:bY after.cq)(By:after.word.length<=1000000):
 bG 51 #[jv,aE kB,U k,.bool first,.agg #[U after.cq,aE after.word],U batch] w0 (ao λaC ai=>∃eS gl,aC=.tuple #[eS,gl]/\(∃dn,Acc eJ 33 2 ai dn eS ((pI g mH kB k first after batch).1)/\(dn=0\/w0.heap.size<dn))/\(∃cv:Bool,cv=((pI g mH kB k first after batch).2)/\gl=.bool cv)/\Ext w0 ai):=by
 have pB:=bX;obtain⟨uF,⟨tp,qa,al⟩,OU,J_,me,dM,asO⟩:=bX;obtain⟨m_,q_,iz⟩:=pB.yS;have cL:=au.fS w0;refine bQ func51 rfl ntmps51 rfl (.go 2 rfl (.ac (.box [.bool first] rfl rfl λai aK av aG cu aW=>have a1:=(cL.cW av aG aW).cj;.ac (.box [U after.cq,aE after.word] rfl rfl λaZ aR aA aJ ef bR=>have a6:=(a1.cW aA aJ bR).bO;.ac (.box [U batch] rfl rfl λbp bx aO aX fH cT=>have ba:=(a6.cW aO aX cT).cm;have f1:=hy.A6 qH ba.mod (λ_ _ _ h=>h);.go 8 rfl (.ac (.aH ai_ rfl (alB (w0:=bp)  kB (k) f1 (Nat.le_trans x9 ba.mod.size) cK aV) ?_)))))));rintro _ bZ ⟨v1,_,rfl,h1,⟨bK,bs,rfl⟩,aY⟩;have bL:=(ba.ET aY h1).bT;have uH:=h1.le;have:=ahH g kB k;refine .go 10 rfl ?_;cases bK
 case true =>
  replace bs:=bs.symm;refine .z (.not rfl) (.go 5 rfl (.ac (.alloc tz λcM cC bu cH hc de=>have bI:=(bL.cW bu cH de).cU;have f2:=bI.k 2;.go 3 rfl (.z (.fX aI f2) (.z (.max rfl rfl) (.ac (.st aI f2 λc7 b' e6=>?_)))))));have bq:=(bI.c_ 2 b' e6.c1).cU;refine .go 3 rfl (.ac (.alloc fj λdA c' cG cr kg gE=>have b3:=(bq.cW cG cr gE).n6;have f3:=b3.k 5;.ac (.st fj f3 λeK dg pY=>?_)));have bS:=(b3.c_ 5 dg pY.c1).n6;have ck:au az az w0 eK [ay aK [.bool first] 4,ay aR [U after.cq,aE after.word] 33,ay bx [U (max batch 0)] 3,fe iM [(v1,(jj g kB k))],ay cC [.slice none 0 0] 47,ay c' [.bool false] 4,aS eJ 33 2 (.slice none 0 0) []]:=bS.fD (Mod.refl _ _) Acc.nil (.inl rfl);have cQ:=(ck.bx [0,1,2,3] 4 6 5).cU;have dh:au az az w0 eK [ay aK [.bool first] 4,ay aR [U after.cq,aE after.word] 33,ay bx [U (max batch 0)] 3,fe iM [(v1,(jj g kB k))],qC 47 33 4 cC c' (iD mH (jj g kB k) first after (max batch 0) 0)]:=cQ.fC (.slice none 0 0) (i:=4) rfl;have Bi:pH g kB k=true:=(by assumption);have YG:=(A8.1 Bi).2.1;refine .go 5 rfl (.z (.cb (k+1) rfl rfl aa) (.ae 3 rfl (dV (I:=λm E W=>∃(jJ:Nat),E=[(0,jv),(9,ptr aK 0),(10,ptr aR 0),(11,ptr bx 0),(14,v1),(16,ptr cC 0),(17,ptr c' 0),(31,U (k+1)),(32,U (jJ:Int))]/\m=(k+1).toNat-jJ/\au az az w0 W [ay aK [.bool first] 4,ay aR [U after.cq,aE after.word] 33,ay bx [U (max batch 0)] 3,fe iM [(v1,(jj g kB k))],qC 47 33 4 cC c' (iD mH (jj g kB k) first after (max batch 0) jJ)]/\(false=(iD mH (jj g kB k) first after (max batch 0) jJ).2)/\((jJ:Int)<=k+1)) ?_ ?_)))
  . refine⟨_,_,⟨(0:Nat),rfl,rfl,dh,dz,zN⟩,bj⟩
  . rintro _ _ ff ⟨jJ,rfl,rfl,dH,vC,On⟩ b4;refine .go 2 rfl (.bh (.lt rfl rfl) (λdt=>?_) λdt=>?_)
    . refine .go 9 rfl (.ac (.alloc aI λfm hf dm dy FX x8=>have eB:=dH.ext dm;have fc:=(dH.cW dm dy x8).n6;have f4:=fc.k 5;.ac (.st aI f4 λhv dP alG=>?_)));have eF:=(fc.c_ 5 dP alG.c1).n6;have f5:=eF.k 5;refine .go 5 rfl (.z (.fX aI f5) (.z (.makeFunc (first:=[]) (cap:=[ptr hf 0,ptr aK 0,ptr aR 0,ptr cC 0,ptr bx 0,ptr c' 0]) rfl rfl) ?_));have ej:=(eF.cC [3] 4 5 0 1 2).bO;have f6:=hy.A6 qH ej.mod (λ_ _ _ h=>h);obtain⟨hW,asP,dx,YH,Kd,ds,YI,dc⟩:=ej.Cy (i:=1) (j:=0) rfl rfl b5;have asQ:=Nt mH (jj g kB k) first after (max batch 0) jJ
      have asR:jJ*mH.length<=5*mH.length:=Nat.mul_le_mul_right _ zN;refine .ac (.aH ai' rfl (alu (s:=s) (words:=mH) (w0:=hv) (jJ:Int) (iD mH (jj g kB k) first after (max batch 0) jJ) (alD cC c' hf aK aR bx (jJ:Int) (max batch 0) first after zN zN Ku By) dx (λb ab=>(ds b ab).2) (uF▸f6) (Nat.le_trans x9 ej.mod.size) (ahJ ds (λ_ h=>h) x9) (EY YH) Kd YI zN zN (uF▸qa) al OU J_ me dM (uF▸iz) (ahI J_ tC) (Wp first after (max batch 0) _ 1000000 _ _ (by have:=Wm mH (jj g kB k) (jJ:Int);omega))) ?_);rintro _ jl ⟨rfl,eV,fr,gX,dZ⟩;have gw:au az az w0 jl [fe iM [(v1,(jj g kB k))],bl [qC 47 33 4 cC c' (iD mH (jj g kB k) first after (max batch 0) (jJ+1)),ay hf [U (jJ:Int)] 3,ay aK [.bool first] 4,ay aR [U after.cq,aE after.word] 33,ay bx [U (max batch 0)] 3]]:=dc _ _ _ eV (ahK vC▸gX) dZ;clear dx YH Kd ds YI dc;have fs:=(gw.u 1 [0]).n6;have gM:au az az w0 jl [fe iM [(v1,(jj g kB k))],qC 47 33 4 cC c' (iD mH (jj g kB k) first after (max batch 0) (jJ+1)),ay hf [U (jJ:Int)] 3,ay aK [.bool first] 4,ay aR [U after.cq,aE after.word] 33,ay bx [U (max batch 0)] 3]:=fs;obtain⟨jU,e1⟩:∃b,b=(iD mH (jj g kB k) first after (max batch 0) (jJ+1)).2:=⟨_,rfl⟩;obtain⟨fM,gD⟩:=gM.fK 1;change au az az w0 jl [fe iM [(v1,(jj g kB k))],bl [ay cC [fM] 47,aS eJ 33 2 fM ((iD mH (jj g kB k) first after (max batch 0) (jJ+1)).1),ay c' [.bool (iD mH (jj g kB k) first after (max batch 0) (jJ+1)).2] 4],ay hf [U (jJ:Int)] 3,ay aK [.bool first] 4,ay aR [U after.cq,aE after.word] 33,ay bx [U (max batch 0)] 3] at gD;rw[<-e1] at gD;have iA:=(gD.u 1 [0,2,3,4,5]).n8;have f7:=iA.k 7;refine .go 3 rfl (.z (.fX fj f7) (.ae 1 rfl ?_));cases jU
      case true =>
       replace e1:=e1.symm;refine .ae 3 rfl (eR (λi=>false) 5 (λan=>Mod (ca 0) jl an) mixed λlK gQ=>have iH:=iA.ext gQ;have Gi:Mod (ca 0) jl lK:=Mod.ga gQ;⟨Gi,?_⟩);have f8:=iA.k 5;refine .z rfl (.cd tz rfl (λ_ al=>(f8.cell 0 _ rfl).bD al (Nat.succ_ne_zero _))) (.z rfl (.cd fj rfl (λ_ al=>(f7.cell 0 _ rfl).bD al (Nat.succ_ne_zero _))) (.z rfl (.not rfl) (.gd 2 rfl (.nil (cO func51 rfl rfl rfl ?_)))));obtain⟨g1,cf,b_⟩:=iH.tl (i:=6) rfl;exact ao.mk ⟨_,_,rfl,⟨_,Acc.cast cf zM,b_⟩,⟨_,zM,rfl⟩,iH.mod⟩
      replace e1:=e1.symm;have iH:=(iA.bx [0,1,2,3,4] 5 6 7).n6;have k6:au az az w0 jl [fe iM [(v1,(jj g kB k))],ay hf [U (jJ:Int)] 3,ay aK [.bool first] 4,ay aR [U after.cq,aE after.word] 33,ay bx [U (max batch 0)] 3,qC 47 33 4 cC c' ((iD mH (jj g kB k) first after (max batch 0) (jJ+1)).1,false)]:=iH.fC fM (i:=5) rfl;have lZ:=(k6.ty (qC 47 33 4 cC c' (iD mH (jj g kB k) first after (max batch 0) (jJ+1))) 5 rfl (λec bP=>by rw[show(iD mH (jj g kB k) first after (max batch 0) (jJ+1))=((iD mH (jj g kB k) first after (max batch 0) (jJ+1)).1,false) from Prod.ext rfl (by show _=false;assumption)];exact bP)).n6;exact .go 4 rfl (.z (.cb ((jJ+1:Nat):Int) rfl rfl zN) (have qn:=(lZ.dw [2,3,4,0,5]).cU;.ae 2 rfl ((b4 _ _ _ ⟨(jJ+1:Nat),rfl,rfl,qn,(by first|exact(by assumption:_=(iD mH (jj g kB k) first after (max batch 0) (jJ+1)).2)|(symm;assumption)|(exfalso;omega)),e'⟩ zN).sub bj)))
    refine .ae 2 rfl ?_;obtain⟨hf,dy⟩:∃b,b=(iD mH (jj g kB k) first after (max batch 0) jJ).2:=⟨_,rfl⟩;obtain⟨fM,eB⟩:=dH.fK 4;change au az az w0 ff [ay aK [.bool first] 4,ay aR [U after.cq,aE after.word] 33,ay bx [U (max batch 0)] 3,fe iM [(v1,(jj g kB k))],bl [ay cC [fM] 47,aS eJ 33 2 fM ((iD mH (jj g kB k) first after (max batch 0) jJ).1),ay c' [.bool (iD mH (jj g kB k) first after (max batch 0) jJ).2] 4]] at eB;rw[<-dy] at eB;have fc:=(eB.u 4 [0,1,2,3]).n7;refine .ae 3 rfl (eR (λi=>false) 5 (λan=>Mod (ca 0) ff an) mixed λfm dm=>have eF:=fc.ext dm;have sS:Mod (ca 0) ff fm:=Mod.ga dm;⟨sS,?_⟩);have f4:=fc.k 4;refine .z rfl (.cd tz rfl (λ_ al=>(f4.cell 0 _ rfl).bD al (Nat.succ_ne_zero _))) (have f5:=fc.k 6;.z rfl (.cd fj rfl (λ_ al=>(f5.cell 0 _ rfl).bD al (Nat.succ_ne_zero _))) ?_);cases hf
    case true =>
     replace dy:=dy.symm;refine .z rfl (.not rfl) (.gd 2 rfl (.nil (cO func51 rfl rfl rfl ?_)));obtain⟨g1,cf,b_⟩:=eF.tl (i:=5) rfl;exact ao.mk ⟨_,_,rfl,⟨_,Acc.cast cf zM,b_⟩,⟨_,zM,rfl⟩,eF.mod⟩
    replace dy:=dy.symm;refine .z rfl (.not rfl) (.gd 2 rfl (.nil (cO func51 rfl rfl rfl ?_)));obtain⟨g1,cf,b_⟩:=eF.tl (i:=5) rfl;exact ao.mk ⟨_,_,rfl,⟨_,Acc.cast cf zM,b_⟩,⟨_,zM,rfl⟩,eF.mod⟩
 replace bs:=bs.symm;exact .z (.not rfl) (.ae 7 rfl (cO func51 rfl rfl rfl (ao.mk ⟨_,_,rfl,⟨0,Acc.cast Acc.nil zM,.inl rfl⟩,⟨_,zM,rfl⟩,bL.mod⟩)))
end Go.Proofs
namespace Go.ak
open Go.aF
def yp(K:List cZ)(s:Int):Int:=match K.findIdx? λx=>decide (x.1=s) with|some i=>(i:Int)|none=>-1
theorem Pe{K:List cZ}{s:Int}(h:jN K s=none):yp K s=-1:=by
 unfold yp
 have:K.findIdx? (λx=>decide (x.1=s))=none:=by
  rw[List.findIdx?_eq_none_iff]
  intro x ah
  have:=List.find?_eq_none.1 h x ah
  simpa using this
 rw[this]
theorem Pf{K:List cZ}{s:Int}{x:cZ}(h:jN K s=some x):∃k:Nat,yp K s=(k:Int)/\K[k]?=some x/\x.1=s:=by
 obtain⟨k,h1,ag,aB⟩:=agj h;refine⟨k,?_,h1,ag⟩;unfold yp
 have:K.findIdx? (λx=>decide (x.1=s))=some k:=by
  obtain⟨hk,rfl⟩:=List.getElem?_eq_some_iff.1 h1
  rw[List.findIdx?_eq_some_iff_getElem]
  refine⟨hk,decide_eq_true ag,λj bn=>?_⟩
  have:=aB j _ bn (List.getElem?_eq_getElem aa)
  simpa using this
 rw[this]
theorem alH{K:List cZ}{s:Int}{sh:List Int}{i:Nat}{y:Int}(yX:sh=K.map (·.1))(fZ:∀z∈sh.take i,z≠s)(aD:sh[i]?=some y)(he:y=s):(i:Int)=yp K s:=by
 subst yX;unfold yp;rw[List.getElem?_map] at aD
 cases hk:K[i]? with
 | none=>rw[hk] at aD;cases aD
 | some x =>
  rw[hk] at aD;have ah:x.1=s:=(Option.some.inj aD).trans he;obtain⟨ng,wD⟩:=List.getElem?_eq_some_iff.1 hk
  have:K.findIdx? (λx=>decide (x.1=s))=some i:=by
   rw[List.findIdx?_eq_some_iff_getElem]
   refine⟨ng,decide_eq_true (by rw[wD];exact ah),λj bn=>?_⟩
   have ag:=fZ (K[j]'aa).1 (by
    rw[<-List.map_take]
    exact List.mem_map_of_mem (List.mem_take_iff_getElem.2 ⟨j,by omega,rfl⟩))
   simpa using ag
  rw[this]
theorem alI{K:List cZ}{s:Int}{sh:List Int}{i:Nat}(yX:sh=K.map (·.1))(fZ:∀z∈sh.take i,z≠s)(ar:sh.length<=i):(-1:Int)=yp K s:=by
 rw[List.take_of_length_le ar] at fZ;subst yX;unfold yp
 have:K.findIdx? (λx=>decide (x.1=s))=none:=by
  rw[List.findIdx?_eq_none_iff]
  intro x ah
  have:=fZ x.1 (List.mem_map_of_mem ah)
  simpa using this
 rw[this]
theorem alJ{sh:List Int}{s y:Int}{i:Nat}(fZ:∀z∈sh.take i,z≠s)(aD:sh[i]?=some y)(dL:y≠s):∀z∈sh.take (i+1),z≠s:=by
 intro z cS;rw[List.take_add_one,aD] at cS;rcases List.mem_append.1 cS with h|h
 . exact fZ z h
 . simp only[Option.toList_some,List.mem_singleton] at h;rw[h];exact dL
theorem alK(K:List cZ)(s:Int):bY (pD K s):=by unfold pD;split<;>(unfold bY;decide)
theorem YJ{K:List cZ}(h:oJ K)(s:Int):(iP K s).length<=4000000:=by
 unfold iP;split
 . exact Nat.zero_le _
 . rename_i x ah;have:=h.2 _ (zb ah).2;omega
end Go.ak
namespace Go.aF
open Go Go.ak
section
variable {R F bV:Nat->Prop} {w0 w:World} {L:List (dq R)} {i:Nat} {rows:List i_} {K:List cZ}
theorem Pg(h:pE w F rows K):rows.map (·.shard)=K.map (·.1):=by
 induction h with
 | nil=>rfl
 | cons h _ cc=>rw[List.map_cons,List.map_cons,cc,h.1]
theorem au.Bz(h:au R bV w0 w L)(ar:L[i]?=some (jO rows K)):pE w (dr 0 w.heap.size) rows K:=by
 obtain⟨F,h1,ag⟩:=h.get ar;exact pE.mono h1 λb ab=>⟨Nat.zero_le _,ag b ab⟩
theorem pE.two(h:pE w F rows K){k:Nat}{r:i_}(a':rows[k]?=some r){y:cZ}(aD:K[k]?=some y):aq en w F r.r.val y.2.1/\aq en w F r.b.val y.2.2:=by
 obtain⟨e,he,_,cB,dG⟩:=h.at a';obtain rfl:e=y:=Option.some.inj (he.symm.trans aD);exact⟨cB,dG⟩
end
end Go.aF
namespace Go.aF
open Go
theorem Ph{P:Program}{d:Nat}{xs ys:Array Value}(gs:List Field):∀(ly:List Field) (w an:World),(Op.eqFields d xs ys ly).run P w=.ok true an->(Op.eqFields d xs ys (ly++gs)).run P w=(Op.eqFields d xs ys gs).run P an
 | [],w,an,h=>by
  simp only[Op.eqFields,Sem.run_pure,Result.ok.injEq,true_and] at h
  subst h;rfl
 | f::ly,w,an,h=>by
  rw[List.cons_append]
  simp only[Op.eqFields] at h ⊢
  split at h
  . rename_i aN
    rw[if_pos aN]
    simp only[Sem.run_bind] at h ⊢
    generalize (part f.type xs f.offset).run P w=dX at h ⊢
    cases dX with
    | ok a ai =>
     simp only[Result.andThen_ok] at h ⊢
     generalize (part f.type ys f.offset).run P ai=Gj at h ⊢
     cases Gj with
     | ok b aZ =>
      simp only[Result.andThen_ok] at h ⊢
      generalize (Op.equalIn d f.type a b).run P aZ=Pj at h ⊢
      cases Pj with
      | ok r bp =>
       simp only[Result.andThen_ok] at h ⊢
       cases r
       . simp at h
       . simp only[Bool.not_true,Bool.false_eq_true,if_false] at h ⊢
         exact Ph gs ly bp an h
      | _=>cases h
     | _=>cases h
    | _=>cases h
  . rename_i aN
    rw[if_neg aN]
    exact Ph gs ly w an h
theorem Pk{P:Program}{d:Nat}{xs ys:Array Value}(gs:List Field):∀(ly:List Field) (w an:World),(Op.eqFields d xs ys ly).run P w=.ok false an->(Op.eqFields d xs ys (ly++gs)).run P w=.ok false an
 | [],w,an,h=>by simp[Op.eqFields] at h
 | f::ly,w,an,h=>by
  rw[List.cons_append]
  simp only[Op.eqFields] at h ⊢
  split at h
  . rename_i aN
    rw[if_pos aN]
    simp only[Sem.run_bind] at h ⊢
    generalize (part f.type xs f.offset).run P w=dX at h ⊢
    cases dX with
    | ok a ai =>
     simp only[Result.andThen_ok] at h ⊢
     generalize (part f.type ys f.offset).run P ai=Gj at h ⊢
     cases Gj with
     | ok b aZ =>
      simp only[Result.andThen_ok] at h ⊢
      generalize (Op.equalIn d f.type a b).run P aZ=Pj at h ⊢
      cases Pj with
      | ok r bp =>
       simp only[Result.andThen_ok] at h ⊢
       cases r
       . simpa using h
       . simp only[Bool.not_true,Bool.false_eq_true,if_false] at h ⊢
         exact Pk gs ly bp an h
      | _=>cases h
     | _=>cases h
    | _=>cases h
  . rename_i aN
    rw[if_neg aN]
    exact Pk gs ly w an h
theorem alL{P:Program}{t t2:TypeId}{xs ys x2 y2:Array Value}{ks ks2:List (Nat×AL)}{q q2:Bool}{k o n by_:Nat}{z:List Value}(bC:P.underlying t=some (.struct (P.fieldsOf t)))(hp:P.stoodInHeld t=false)
 (hk : yV P ((P.fieldsOf t).toList.take k) = some ks) (aU : (((P.fieldsOf t).toList.drop k).map fun f => (f.name != "_", f.type, f.offset)) = [(true, t2, o)])
 (sF:P.underlying t2=some (.struct (P.fieldsOf t2))) (wA:P.stoodInHeld t2=false) (bR:yV P (P.fieldsOf t2).toList=some ks2) (r8:eu P t2=some (true,n,by_,z))
 (dB:mx ks xs ys=some q) (ah:xs.extract o (o+n)=x2) (aD:ys.extract o (o+n)=y2) (zE:mx ks2 x2 y2=some q2) (w:World) :
 (Op.equalIn 10000 t (.agg xs) (.agg ys)).run P w=.ok (q && q2) w:=by
 refine(run_equalIn_agg w 9999 t xs ys bC hp).trans ?_;have h1:=HP (P:=P) (xs:=xs) (ys:=ys) (n:=9998) w _ ks q hk dB;have bk:(P.fieldsOf t).toList=(P.fieldsOf t).toList.take k++(P.fieldsOf t).toList.drop k:=(List.take_append_drop _ _).symm;rw[bk]
 cases q with
 | false =>
  show _=Result.ok false w;exact Pk _ _ w w h1
 | true =>
  rw[Ph _ _ w w h1];obtain⟨f,C6,YK⟩:=List.map_eq_singleton_iff.1 aU;rw[C6];simp only[Prod.mk.injEq,bne_iff_ne,ne_eq] at YK;obtain⟨aN,fV,je⟩:=YK
  have AM:∀cs:Array Value,(part f.type cs f.offset).run P w=.ok (.agg (cs.extract o (o+n))) w:=by
   intro cs
   unfold part
   rw[fV,je]
   simp[Sem.run_bind,LB r8,aF.run_sizeOf r8]
  have he:(Op.equalIn 9999 t2 (.agg x2) (.agg y2)).run P w=.ok q2 w:=(run_equalIn_agg w 9998 t2 x2 y2 sF wA).trans (HP (n:=9997) w _ ks2 q2 bR zE);have YL:=AM xs;have YM:=AM ys;rw[ah] at YL;rw[aD] at YM;rw[<-fV] at he;simp only[Op.eqFields];rw[if_pos aN];simp only[Sem.run_bind,YL,YM,Result.andThen_ok,he]
  cases q2<;>simp
end Go.aF
namespace Go.ak
open Go.aF
structure ed where
 ep:Int
 up:Bool
 life:Int
 K:List cZ
 B:List cZ
 q:List bf
def gm(B:List cZ)(k:Int):List cx:=(iv (iP B k)).1
def kM(B:List cZ)(k:Int):Int:=(iv (iP B k)).2
def k9(ks:List Int)(vs:List Value)(B:List cZ):List (Int×(Value×Int)):=(ks.zip vs).map λp=>(p.1,(p.2,kM B p.1))
def l3(p:Value×Int):Value:=.agg #[p.1,.int .i64 p.2]
theorem alM{ks:List Int}{vs:List Value}{B:List cZ}{i:Nat}{k:Int}{v:Value}(cN:vs.length=i)(hk:ks[i]?=some k)(aN:ks.Nodup):lD (k9 (ks.take i) vs B) k (v,kM B k)=k9 (ks.take (i+1)) (vs++[v]) B:=by
 have ar:=(List.getElem?_eq_some_iff.1 hk).1;have bk:(ks.take i).length=vs.length:=by rw[List.length_take];omega
 have e:k9 (ks.take (i+1)) (vs++[v]) B=k9 (ks.take i) vs B++[(k,(v,kM B k))]:=by
  unfold k9
  rw[List.take_add_one,hk]
  rw[List.zip_append bk,List.map_append];rfl
 rw[e]
 have fZ:∀p∈k9 (ks.take i) vs B,p.1≠k:=by
  intro p hp
  unfold k9 at hp
  obtain⟨x,ah,rfl⟩:=List.mem_map.1 hp
  have a_:=(List.of_mem_zip (a:=x.1) (b:=x.2) ah).1
  intro e
  obtain⟨j,bn,he⟩:=List.mem_iff_getElem.1 a_
  rw[List.length_take] at bn
  rw[List.getElem_take] at he
  have ag:=List.getElem_of_getElem? hk
  exact(List.pairwise_iff_getElem.1 aN) j i aa ar aa (by rw[he,e];exact((List.getElem?_eq_some_iff.1 hk).2).symm)
 have:∀(m:List (Int×(Value×Int))),(∀p∈m,p.1≠k)->lD m k (v,kM B k)=m++[(k,(v,kM B k))]:=by
  intro m
  induction m with
  | nil=>intro _;rfl
  | cons p m cc =>
   intro h
   unfold lD
   rw[if_neg (h p di),cc λq dB=>h q (by simp[dB])];rfl
 exact this _ fZ
theorem Pl{ks:List Int}{vs:List Value}{B:List cZ}(bk:vs.length=ks.length)(s:Int):
 (s∉ks/\gz (k9 ks vs B) s=none)\/∃(i:Nat) (v:Value),ks[i]?=some s/\vs[i]?=some v/\gz (k9 ks vs B) s=some (v,kM B s):=by
 induction ks generalizing vs with
 | nil=>exact .inl ⟨by simp,rfl⟩
 | cons k ks cc =>
  cases vs with
  | nil=>simp at bk
  | cons v vs =>
   have hF:k9 (k::ks) (v::vs) B=(k,(v,kM B k))::k9 ks vs B:=rfl;rw[hF];by_cases hk:k=s
   . subst hk;exact .inr ⟨0,v,rfl,rfl,by rw[qb,if_pos rfl]⟩
   . rcases cc (vs:=vs) (by simpa using bk) with ⟨h1,ag⟩|⟨i,u,h1,ag,aB⟩
     . exact .inl ⟨by simp[h1];exact λe=>hk e.symm,by rw[qb,if_neg hk,ag]⟩
     . exact .inr ⟨i+1,u,by simpa using h1,by simpa using ag,by rw[qb,if_neg hk,aB]⟩
structure qo where
 slot:Int
 query:Int
 shard:Int
 seq:Int
 worker:Int
 f':Int
 items:List b6
 fin:Bool
 deriving DecidableEq
inductive eY where
 | hE (a b:Int)
 | l4 (a b c:Int)
 | ask (a:bf)
 | iU (r:qo)
 | stop (a b:Int)
 deriving DecidableEq
def DJ(ks:List Int)(B:List cZ)(k:Int):Bool:=decide (k∈ks) && decide (gm B k≠[])
def si(ks:List Int)(s:ed)(a:bf):Bool:=nV a && decide (a.f'=s.ep) && decide (0<a.f') && DJ ks s.B a.shard
def vP(id:Int)(s:ed)(a b c:Int):Bool:=decide (a=id) && decide (b=s.life) && decide (s.ep<c)
def kq(id:Int)(ks:List Int)(s:ed)(m:eY):ed:=
 if s.up=false then s else match m with
 | .l4 a b c=>if vP id s a b c=true then { s with ep:=c } else s
 | .ask a=>if si ks s a=true then { s with q:=gf s.q a } else s
 | .stop a b=>{ s with q:=ln s.q a b }
 | _=>s
def hq(B:List cZ)(k:Int):List aj:=(h4 (iP B k)).1
def answer(id:Int)(s:ed)(a:bf):qo:=
 let r:=pI (gm s.B a.shard) (hq s.B a.shard) a.text a.k a.first a.after a.batch
 ⟨a.slot,a.query,a.shard,a.seq,id,s.ep,r.1,r.2⟩
def jm(id:Int)(s:ed):ed×List eY:=
 if s.up=false then(s,[]) else
 if 0<s.ep then match s.q with
  | a::q=>({ s with q:=q },[.iU (answer id s a)])
  | []=>(s,[.hE id s.life])
 else(s,[.hE id s.life])
def rA(s:ed):ed:=⟨0,true,s.life+1,s.K,s.K,[]⟩
def sX(c:cE)(id:Int):ed:=⟨0,true,1,np c id,np c id,[]⟩
def DK(s:ed):Int:=if s.up=true then s.ep else 0
def jG(ks:List Int)(s:ed)(k:Int):List aj×Int:=
 if s.up=false then([],10) else if k∈ks then(if kM s.B k=0 then(hq s.B k,0) else([],kM s.B k)) else([],4)
def Gk(s:ed):List bf:=if s.up=true then s.q else[]
structure w7(ks:List Int):Prop where
 vq:ks.Nodup
 i64:∀k∈ks,bY k
 len:ks.length<=1000
structure Pm(ks:List Int)(B:List cZ)(a:bf):Prop where
 ok:a.Ok
 Iu:a.text.length<=1000
 YN:a.after.word.length<=1000
 sh:a.shard∈ks
 dn:gm B a.shard≠[]
structure hX(ks:List Int)(n:Nat)(s:ed):Prop where
 life:0<=s.life/\s.life<=(n:Int)
 K:oJ s.K
 ep:bY s.ep
 nD:s.q.length<=n
 q:∀a∈s.q,Pm ks s.B a
 kw:∀k,(hq s.K k).length<=1000
 c9:∀k,(hq s.B k).length<=1000
theorem hX.more{ks:List Int}{n m:Nat}{s:ed}(h:hX ks n s)(hm:n<=m):hX ks m s:=⟨⟨h.life.1,by have:=h.life.2;omega⟩,h.K,h.ep,by have:=h.nD;omega,h.q,h.kw,h.c9⟩
theorem alN{ks:List Int}{s:ed}{a:bf}(h:si ks s a=true):nV a=true/\a.f'=s.ep/\0<a.f'/\a.shard∈ks/\gm s.B a.shard≠[]:=by
 unfold si DJ at h;simp only[Bool.and_eq_true,decide_eq_true_eq] at h;exact⟨h.1.1.1,h.1.1.2,h.1.2,h.2.1,h.2.2⟩
theorem alO{q:List bf}{a x:bf}(h:x∈gf q a):x∈q\/x=a:=by
 unfold gf at h;split at h
 . split at h
   . obtain⟨y,aD,e⟩:=List.mem_map.1 h;split at e
     . exact .inr e.symm
     . exact .inl (e▸aD)
   . rcases List.mem_append.1 h with h|h
     . exact .inl h
     . exact .inr (List.mem_singleton.1 h)
 . exact .inl h
theorem alP(q:List bf)(a:bf):(gf q a).length<=q.length+1:=by
 unfold gf;split
 . split
   . rw[List.length_map];omega
   . rw[List.length_append];simp
 . omega
theorem hX.begin{ks:List Int}{n:Nat}{s:ed}(h:hX ks n s):hX ks (n+1) (rA s):=
 ⟨⟨by have:=h.life.1;show 0<=s.life+1;omega,by have:=h.life.2;show s.life+1<=((n+1:Nat):Int);omega⟩,h.K,by show bY 0;unfold bY;decide,Nat.zero_le _,(λa ax=>nomatch ax),h.kw,h.kw⟩
theorem hX.Kv{ks:List Int}{n:Nat}{s:ed}(h:hX ks n s):hX ks n { s with up:=false }:=⟨h.life,h.K,h.ep,h.nD,h.q,h.kw,h.c9⟩
theorem hX.Kw{ks:List Int}{n:Nat}{s:ed}{K:List cZ}(h:hX ks n s)(eC:oJ K)(hw:∀k,(hq K k).length<=1000):hX ks n { s with K:=K }:=⟨h.life,eC,h.ep,h.nD,h.q,hw,h.c9⟩
def eY.Ok:eY->Prop
 | .hE a b=>bY a/\bY b
 | .l4 a b c=>bY a/\bY b/\bY c
 | .ask a=>a.Ok/\a.text.length<=1000/\a.after.word.length<=1000
 | .iU _=>True
 | .stop a b=>bY a/\bY b
theorem hX.take{ks:List Int}{n:Nat}{s:ed}{id:Int}{m:eY}(h:hX ks n s)(hm:m.Ok):hX ks (n+1) (kq id ks s m):=by
 have gO:=h.more (Nat.le_succ n);unfold kq;split
 . exact gO
 . cases m with
   | hE a b=>exact gO
   | iU r=>exact gO
   | l4 a b c =>
    dsimp only;split
    . exact⟨gO.life,h.K,hm.2.2,gO.nD,h.q,h.kw,h.c9⟩
    . exact gO
   | ask a =>
    dsimp only;split
    . rename_i a8;obtain⟨_,_,_,bE,c3⟩:=alN a8;refine⟨gO.life,h.K,h.ep,?_,λx ah=>?_,h.kw,h.c9⟩
      . have:=alP s.q a;have:=h.nD;show(gf s.q a).length<=n+1;omega
      . rcases alO ah with ah|rfl
        . exact h.q x ah
        . exact⟨hm.1,hm.2.1,hm.2.2,bE,c3⟩
    . exact gO
   | stop a b =>
    refine⟨gO.life,h.K,h.ep,?_,λx ah=>h.q x ((List.mem_filter.1 ah).1),h.kw,h.c9⟩;have:(ln s.q a b).length<=s.q.length:=List.length_filter_le ..
    have:=h.nD;show(ln s.q a b).length<=n+1;omega
theorem hX.Pn{ks:List Int}{n:Nat}{s:ed}{id:Int}(h:hX ks n s):hX ks n (jm id s).1:=by
 unfold jm;split
 . exact h
 . split
   . split
     . rename_i a q dB;exact⟨h.life,h.K,h.ep,by have:=h.nD;rw[dB] at this;simp only[List.length_cons] at this;show q.length<=n;omega,λx ah=>h.q x (by rw[dB];exact List.mem_cons_of_mem _ ah),h.kw,h.c9⟩
     . exact h
   . exact h
theorem Kx{B:List cZ}{k:Int}:gm B k≠[]↔kM B k=0:=by
 constructor
 . intro h;exact(CT _).1.trans (VW h)
 . intro h;obtain⟨N,_,ag,aB⟩:=Vx h;exact λe=>ag (aB.symm.trans e)
theorem YO{B:List cZ}{k:Int}(h:gm B k≠[]):uf (gm B k) (o_ (hq B k)) (hq B k):=by
 obtain⟨h1,ag⟩:=Ni h;have e:gm B k=h7 (hq B k):=ag;rw[e];exact CE h1
theorem alQ{ks:List Int}{B:List cZ}{k:Int}(h1:k∈ks)(ag:gm B k≠[]):DJ ks B k=true:=by unfold DJ;rw[decide_eq_true h1,decide_eq_true ag];rfl
theorem alR{ks:List Int}{B:List cZ}{k:Int}(h:k∉ks\/gm B k=[]):DJ ks B k=false:=by
 unfold DJ;rcases h with h|h
 . rw[decide_eq_false h];rfl
 . rw[h];simp
theorem alS(B:List cZ)(k:Int):0<=kM B k/\kM B k<=10:=by
 have:0<=(iv (iP B k)).2/\(iv (iP B k)).2<=9:=by
  cases h:nn (iP B k) with
  | false=>rw[M8 h];decide
  | true =>
   rcases VG h with h|h
   . omega
   . rw[h];decide
 unfold kM;omega
theorem YP{ks:List Int}{ep life:Int}{K B:List cZ}{q:List bf}{k:Int}:jG ks ⟨ep,false,life,K,B,q⟩ k=([],10):=rfl
theorem Po{ks:List Int}{ep life:Int}{K B:List cZ}{q:List bf}{k:Int}(h:k∉ks):jG ks ⟨ep,true,life,K,B,q⟩ k=([],4):=by unfold jG;simp[h]
theorem Gl{ks:List Int}{ep life:Int}{K B:List cZ}{q:List bf}{k:Int}(h:k∈ks)(he:kM B k≠0):jG ks ⟨ep,true,life,K,B,q⟩ k=([],kM B k):=by unfold jG;simp[h,he]
theorem DL{ks:List Int}{ep life:Int}{K B:List cZ}{q:List bf}{k:Int}(h:k∈ks)(he:kM B k=0):jG ks ⟨ep,true,life,K,B,q⟩ k=(hq B k,0):=by unfold jG;simp[h,he]
theorem asS(ks:List Int)(s:ed)(k:Int):0<=(jG ks s k).2/\(jG ks s k).2<=10:=by
 unfold jG;split
 . exact⟨by decide,by decide⟩
 . split
   . split
     . exact⟨Int.le_refl 0,(by decide:(0:Int)<=10)⟩
     . exact alS _ _
   . exact⟨by decide,by decide⟩
theorem Gm{c:cE}{w k:Int}(h:k∈b0 c w):bY k:=by
 have h1:=CV h;have ag:=u3 c;unfold bY;omega
theorem YQ{ks:List Int}{s:ed}{a:bf}(h:nV a=false):si ks s a=false:=by unfold si;rw[h];rfl
theorem YR{ks:List Int}{s:ed}{a:bf}(h:a.f'≠s.ep):si ks s a=false:=by unfold si;rw[decide_eq_false h];simp
theorem YS{ks:List Int}{s:ed}{a:bf}(h:¬ a.f'>0):si ks s a=false:=by unfold si;rw[decide_eq_false (p:=0<a.f') h];simp
theorem Pp{ks:List Int}{s:ed}{a:bf}(h:a.shard∉ks\/gm s.B a.shard=[]):si ks s a=false:=by unfold si;rw[alR h];simp
theorem Pq{ks:List Int}{s:ed}{a:bf}(h1:nV a=true)(ag:a.f'=s.ep)(aB:a.f'>0)(bE:a.shard∈ks)(c3:gm s.B a.shard≠[]):si ks s a=true:=by
 unfold si;rw[h1,decide_eq_true ag,decide_eq_true (p:=0<a.f') aB,alQ bE c3];rfl
theorem YT{id:Int}{s:ed}{a b c:Int}(h:a≠id):vP id s a b c=false:=by unfold vP;rw[decide_eq_false h];simp
theorem YU{id:Int}{s:ed}{a b c:Int}(h:b≠s.life):vP id s a b c=false:=by unfold vP;rw[decide_eq_false h];simp
theorem YV{id:Int}{s:ed}{a b c:Int}(h:¬ c>s.ep):vP id s a b c=false:=by unfold vP;rw[decide_eq_false (p:=s.ep<c) h];simp
theorem Pr{id:Int}{s:ed}{a b c:Int}(h1:a=id)(ag:b=s.life)(aB:c>s.ep):vP id s a b c=true:=by
 unfold vP;rw[decide_eq_true h1,decide_eq_true ag,decide_eq_true (p:=s.ep<c) aB];rfl
section
variable {id:Int} {ks:List Int} {ep life:Int} {K B:List cZ} {q:List bf}
theorem zO{m:eY}:kq id ks ⟨ep,false,life,K,B,q⟩ m=⟨ep,false,life,K,B,q⟩:=rfl
theorem yq{a:bf}(h:si ks ⟨ep,true,life,K,B,q⟩ a=false):kq id ks ⟨ep,true,life,K,B,q⟩ (.ask a)=⟨ep,true,life,K,B,q⟩:=by unfold kq;simp[h]
theorem Ps{a:bf}(h:si ks ⟨ep,true,life,K,B,q⟩ a=true):kq id ks ⟨ep,true,life,K,B,q⟩ (.ask a)=⟨ep,true,life,K,B,gf q a⟩:=by unfold kq;simp[h]
theorem DM{a b c:Int}(h:vP id ⟨ep,true,life,K,B,q⟩ a b c=false):kq id ks ⟨ep,true,life,K,B,q⟩ (.l4 a b c)=⟨ep,true,life,K,B,q⟩:=by unfold kq;simp[h]
theorem Pt{a b c:Int}(h:vP id ⟨ep,true,life,K,B,q⟩ a b c=true):kq id ks ⟨ep,true,life,K,B,q⟩ (.l4 a b c)=⟨c,true,life,K,B,q⟩:=by unfold kq;simp[h]
theorem YW{a b:Int}:kq id ks ⟨ep,true,life,K,B,q⟩ (.stop a b)=⟨ep,true,life,K,B,ln q a b⟩:=rfl
theorem YX{a b:Int}:kq id ks ⟨ep,true,life,K,B,q⟩ (.hE a b)=⟨ep,true,life,K,B,q⟩:=rfl
theorem YY:jm id ⟨ep,false,life,K,B,q⟩=(⟨ep,false,life,K,B,q⟩,[]):=rfl
theorem Gn(h:¬ ep>0):jm id ⟨ep,true,life,K,B,q⟩=(⟨ep,true,life,K,B,q⟩,[.hE id life]):=by
 unfold jm;simp only[Bool.true_eq_false,if_false];rw[if_neg (show ¬ 0<ep from h)]
theorem Pu(h:ep>0):jm id ⟨ep,true,life,K,B,[]⟩=(⟨ep,true,life,K,B,[]⟩,[.hE id life]):=by
 unfold jm;simp only[Bool.true_eq_false,if_false];rw[if_pos (show 0<ep from h)]
theorem Pv{a:bf}(h:ep>0):jm id ⟨ep,true,life,K,B,a::q⟩=(⟨ep,true,life,K,B,q⟩,[.iU (answer id ⟨ep,true,life,K,B,a::q⟩ a)]):=by
 unfold jm;simp only[Bool.true_eq_false,if_false];rw[if_pos (show 0<ep from h)]
end
structure w8 where
 a:Int
 b:Int
 deriving DecidableEq
structure Gp where
 a:Int
 b:Int
 c:Int
 deriving DecidableEq
theorem alT{r t:qo}{b:Bool}(bH:r.slot=t.slot)(h1:r.query=t.query)(ag:r.shard=t.shard)(aB:r.seq=t.seq)(bE:r.worker=t.worker)(c3:r.f'=t.f')(eX:r.fin=t.fin)(ab:b=decide (r.items=t.items)):b=decide (r=t):=by
 rw[ab];obtain⟨a0,h9,a2,a3,a4,a5,DN,DO⟩:=r;obtain⟨fp,c1,c2,hG,DP,w9,w_,xZ⟩:=t;simp only at bH h1 ag aB bE c3 eX;subst bH;subst h1;subst ag;subst aB;subst bE;subst c3;subst eX;exact decide_eq_decide.2 di
theorem alU{a b c d:Int}{p:Bool}(h:p=decide (w8.mk a b=w8.mk c d)):p=decide (eY.hE a b=eY.hE c d):=by rw[h];exact decide_eq_decide.2 di
theorem alV{a b c d:Int}{p:Bool}(h:p=decide (w8.mk a b=w8.mk c d)):p=decide (eY.stop a b=eY.stop c d):=by rw[h];exact decide_eq_decide.2 di
theorem alW{a b c d e f:Int}{p:Bool}(h:p=decide (Gp.mk a b c=Gp.mk d e f)):p=decide (eY.l4 a b c=eY.l4 d e f):=by rw[h];exact decide_eq_decide.2 di
theorem alX{a b:bf}{p:Bool}(h:p=decide (a=b)):p=decide (eY.ask a=eY.ask b):=by rw[h];exact decide_eq_decide.2 di
theorem alY{a b:qo}{p:Bool}(h:p=decide (a=b)):p=decide (eY.iU a=eY.iU b):=by rw[h];exact decide_eq_decide.2 di
theorem YZ{id:Int}{ep life:Int}{K B:List cZ}{q:List bf}(h:ep>0)(dB:q.length=0):jm id ⟨ep,true,life,K,B,q⟩=(⟨ep,true,life,K,B,q⟩,[.hE id life]):=by
 obtain rfl:=List.eq_nil_of_length_eq_zero dB;exact Pu h
theorem alZ{id:Int}{ep life:Int}{K B:List cZ}{q d':List bf}{a:bf}(h:ep>0)(dB:q=a::d'):jm id ⟨ep,true,life,K,B,q⟩=(⟨ep,true,life,K,B,d'⟩,[.iU (answer id ⟨ep,true,life,K,B,q⟩ a)]):=by
 subst dB;exact Pv h
end Go.ak
namespace Go.aF
open Go Go.ak
def lM{R:Nat->Prop}(vs:List Value)(sY:List (List cx)):dq R:=⟨λF w=>c4 (λv n=>(wy (R:=R) v n).p F w) vs sY,λh hm br fo=>c4.imp (λ_ _ k=>(wy _ _).keep k hm br fo) h⟩
def jn{R:Nat->Prop}(k1 qp ji eI u8 lG pf:TypeId)(c9:Nat)(id:Int)(ks:List Int)(s:ed):dq R:=nN λx:Value×Nat×Nat×List Value×Nat =>
 bl [ay c9 [.int .i64 id,.int .i64 s.ep,.bool s.up,x.1,ptr x.2.1 0,.map (some x.2.2.1),ptr x.2.2.2.2 0] qp,aS encI k1 1 x.1 ks,hA ji eI u8 x.2.1 s.life s.K,jk fB l3 x.2.2.1 (k9 ks x.2.2.2.1 s.B),lM x.2.2.2.1 (ks.map (gm s.B)),jQ lG pf x.2.2.2.2 s.q]
theorem hy.Pw{gt:TypeId}{w:World}{c5 ar:Nat}{v:Value}{N:List cx}(h:hy gt w c5 ar v N):∃a,v=.pointer a/\(a=none↔N=[]):=by
 rcases h with ⟨h1,ag⟩|⟨b,gn,bm,h1,ag,_⟩
 . exact⟨none,h1,by simp[ag]⟩
 . exact⟨some ⟨b,0,none⟩,h1,by simp[ag]⟩
theorem au.l5{R bV:Nat->Prop}{w0 w:World}{L:List (dq R)}{k1 qp ji eI u8 lG pf:TypeId}{c9 df iQ dd:Nat}{id:Int}{ks:List Int}{s:ed}{o1:Value}{vs:List Value}(h:au R bV w0 w L)(i:Nat)
 (ar:L[i]?=some (bl [ay c9 [.int .i64 id,.int .i64 s.ep,.bool s.up,o1,ptr df 0,.map (some iQ),ptr dd 0] qp,aS encI k1 1 o1 ks,hA ji eI u8 df s.life s.K,jk fB l3 iQ (k9 ks vs s.B),lM vs (ks.map (gm s.B)),jQ lG pf dd s.q])):au R bV w0 w (L.set i (jn k1 qp ji eI u8 lG pf c9 id ks s)):=
 h.imp ar λF x=>⟨(o1,df,iQ,vs,dd),x⟩
theorem al0{R:Nat->Prop}{vs:List Value}{sY:List (List cx)}{v:Value}{n:List cx}{F:Nat->Prop}{w:World}(h:(bl [lM (R:=R) vs sY,wy v n]).p F w):(lM (R:=R) (vs++[v]) (sY++[n])).p F w:=by
 obtain⟨fh,h1,ag,aB⟩:=h;have a:=h1 0 _ rfl;obtain⟨c5,ar,d',q2,fF⟩:=h1 1 _ rfl;have f0:∀b,fh 0 b->F b:=λb ab=>(ag 0 b ab).1.1
 have f1:∀b,fh 1 b->F b:=λb ab=>(ag 1 b ab).1.1
 have qW:c4 (λv n=>(wy (R:=R) v n).p F w) vs sY:=c4.imp (λ_ _ ⟨c5,ar,bF,cB,dG⟩=>⟨c5,ar,bF,cB,λb d' q2=>f0 b (dG b d' q2)⟩) a;exact c4.snoc qW ⟨c5,ar,d',q2,λb bF cB=>f1 b (fF b bF cB)⟩
theorem au.Px{R bV:Nat->Prop}{w0 w:World}{L:List (dq R)}{i k:Nat}{vs:List Value}{sY:List (List cx)}{v:Value}{n:List cx}(h:au R bV w0 w L)(ar:L[i]?=some (lM vs sY))(cN:vs[k]?=some v)(aN:sY[k]?=some n):∃c5 up,hy 0 w c5 up v n/\up<=w.heap.size:=by
 obtain⟨F,h1,_⟩:=h.get ar;obtain⟨c5,up,ag,aB,_⟩:=(c4.get h1).2 k v n cN aN;exact⟨c5,up,ag,aB⟩
theorem yr{R:Nat->Prop}{k1 qp ji eI u8 lG pf:TypeId}{c9:Nat}{id:Int}{ks:List Int}{s:ed}{F:Nat->Prop}{w:World}(h:(jn (R:=R) k1 qp ji eI u8 lG pf c9 id ks s).p F w):
 ∃(o1:Value) (df iQ:Nat) (vs:List Value) (dd:Nat),du w c9 [.int .i64 id,.int .i64 s.ep,.bool s.up,o1,ptr df 0,.map (some iQ),ptr dd 0] qp/\(∃fr,(hA (R:=R) ji eI u8 df s.life s.K).p fr w/\∀b,fr b->F b)/\kQ fB l3 w iQ (k9 ks vs s.B)/\(∃fr,(lM (R:=R) vs (ks.map (gm s.B))).p fr w/\∀b,fr b->F b)/\∃fr,(jQ (R:=R) lG pf dd s.q).p fr w/\∀b,fr b->F b:=by
 obtain⟨⟨o1,df,iQ,vs,dd⟩,fh,h1,ag,_⟩:=h;exact⟨o1,df,iQ,vs,dd,(h1 0 _ rfl).1,⟨_,h1 2 _ rfl,λb ab=>(ag 2 b ab).1.1⟩,(h1 3 _ rfl).1,⟨_,h1 4 _ rfl,λb ab=>(ag 4 b ab).1.1⟩,⟨_,h1 5 _ rfl,λb ab=>(ag 5 b ab).1.1⟩⟩
theorem Py{R:Nat->Prop}{vs:List Value}{sY:List (List cx)}{F:Nat->Prop}{w:World}(h:(lM (R:=R) vs sY).p F w):vs.length=sY.length:=(c4.get h).1
theorem Y0{R:Nat->Prop}{vs:List Value}{sY:List (List cx)}{F:Nat->Prop}{w:World}(h:(lM (R:=R) vs sY).p F w){k:Nat}{v:Value}{n:List cx}(cN:vs[k]?=some v)(aN:sY[k]?=some n):∃c5 up,hy 0 w c5 up v n/\up<=w.heap.size:=by
 obtain⟨c5,up,ag,aB,_⟩:=(c4.get h).2 k v n cN aN;exact⟨c5,up,ag,aB⟩
def rB(iV iu iW iX iY:TypeId):eY->TypeId
 | .hE _ _=>iV
 | .l4 _ _ _=>iu
 | .ask _=>iW
 | .iU _=>iX
 | .stop _ _=>iY
def al1(vi:Value):eY->Value
 | .hE a b=>.agg #[.int .i64 a,.int .i64 b]
 | .l4 a b c=>.agg #[.int .i64 a,.int .i64 b,.int .i64 c]
 | .ask a=>.agg #[.int .i64 a.slot,.int .i64 a.query,.int .i64 a.shard,.int .i64 a.seq,.int .i64 a.f',aE a.text,.int .i64 a.k,.int .i64 a.batch,.bool a.first,.int .i64 a.after.cq,aE a.after.word]
 | .iU r=>.agg #[.int .i64 r.slot,.int .i64 r.query,.int .i64 r.shard,.int .i64 r.seq,.int .i64 r.worker,.int .i64 r.f',vi,.bool r.fin]
 | .stop a b=>.agg #[.int .i64 a,.int .i64 b]
def jx(iV iu iW iX iY:TypeId)(vi:Value)(m:eY):Value:=.iface (rB iV iu iW iX iY m) (al1 vi m)
def jX:eY->List b6
 | .iU r=>r.items
 | _=>[]
def n3(x:Int×Value):List Value:=[.int .i64 x.1,x.2]
theorem tJ(x:Int×Value):(n3 x).length=2:=rfl
def tK{R:Nat->Prop}(iV iu iW iX iY lu p9:TypeId)(v:Value)(ms:List eY):dq R:=nN λnE:List Value=>bl [aS n3 lu 2 v ((nE.zip ms).map λx=>((0:Int),jx iV iu iW iX iY x.1 x.2)),pA (nE.length=ms.length) (bl ((nE.zip ms).map λx=>aS eJ p9 2 x.1 (jX x.2)))]
theorem al2{R:Nat->Prop}{iV iu iW iX iY lu p9:TypeId}{w:World}:(tK (R:=R) iV iu iW iX iY lu p9 (.slice none 0 0) []).p (λ_=>False) w:=
 ⟨[],λ_ _=>False,λi r ar=>by
  match i,ar with
  | 0,ar=>cases ar;exact⟨0,Acc.nil,λb ab=>by omega⟩
  | 1,ar=>cases ar;exact⟨rfl,λ_ _=>False,⟨λi r ar=>by simp at ar,⟨λ_ _ h=>False.elim h,λ_ _ _ _ h _=>False.elim h⟩⟩⟩,λ_ _ h=>h.elim,λ_ _ _ _ h _=>h.elim⟩
theorem Pz{R:Nat->Prop}{iV iu iW iX iY lu p9:TypeId}{F:Nat->Prop}{w:World}{v vi:Value}{m:eY}(h:(bl [aS (R:=R) n3 lu 2 v [((0:Int),jx iV iu iW iX iY vi m)],bl [aS eJ p9 2 vi (jX m)]]).p F w):(tK (R:=R) iV iu iW iX iY lu p9 v [m]).p F w:=by
 obtain⟨fh,h1,ag,aB⟩:=h;refine⟨[vi],fh,λi r ar=>?_,ag,aB⟩
 match i,ar with
 | 0,ar=>cases ar;exact h1 0 _ rfl
 | 1,ar=>cases ar;exact⟨rfl,h1 1 _ rfl⟩
section
variable {iV iu iW iX iY:TypeId} {m:eY}
theorem al3(hd:[iV,iu,iW,iX,iY].Nodup)(h:rB iV iu iW iX iY m=iV):∃a b,m=.hE a b:=by
 cases m<;>simp_all[rB]
theorem al4(hd:[iV,iu,iW,iX,iY].Nodup)(h:rB iV iu iW iX iY m=iu):∃a b c,m=.l4 a b c:=by
 cases m<;>simp_all[rB]
theorem al5(hd:[iV,iu,iW,iX,iY].Nodup)(h:rB iV iu iW iX iY m=iW):∃a,m=.ask a:=by
 cases m<;>simp_all[rB]
theorem al6(hd:[iV,iu,iW,iX,iY].Nodup)(h:rB iV iu iW iX iY m=iX):∃a,m=.iU a:=by
 cases m<;>simp_all[rB]
theorem al7(hd:[iV,iu,iW,iX,iY].Nodup)(h:rB iV iu iW iX iY m=iY):∃a b,m=.stop a b:=by
 cases m<;>simp_all[rB]
end
def Gq(iV iu iW iX iY:TypeId)(w:World)(x:Int×Value)(m:Int×eY):Prop:=x.1=m.1/\∃vi,x.2=jx iV iu iW iX iY vi m.2/\aq eJ w (dr 0 w.heap.size) vi (jX m.2)
def BA(ms:List eY):List (Int×eY):=ms.map λm=>((0:Int),m)
theorem PA{α β:Type}{R:α->β->Prop}{l:List α}{m:List β}(h:c4 R l m){i:Nat}{a:α}(ax:l[i]?=some a):∃b,m[i]?=some b/\R a b:=by
 obtain⟨h1,ag⟩:=c4.get h;obtain⟨ar,_⟩:=List.getElem?_eq_some_iff.1 ax;have ab:m[i]?=some m[i]:=List.getElem?_eq_getElem aa;exact⟨_,ab,ag i a _ ax ab⟩
theorem PB{R:Nat->Prop}{iV iu iW iX iY lu p9:TypeId}{F:Nat->Prop}{w:World}{v:Value}{ms:List eY}(h:(tK (R:=R) iV iu iW iX iY lu p9 v ms).p F w):
 ∃xs,aq n3 w (dr 0 w.heap.size) v xs/\c4 (Gq iV iu iW iX iY w) xs (BA ms):=by
 obtain⟨nE,fh,h1,ag,_⟩:=h;obtain⟨g,ax,_⟩:=h1 0 _ rfl;obtain⟨bk,Y1,bF,cB,_⟩:=h1 1 _ rfl;refine⟨_,ax.b9.cw (Nat.zero_le _) ax.lt,?_⟩
 have key:∀(nE:List Value) (ms:List eY),nE.length=ms.length->(∀(i:Nat) (x:Value×eY),(nE.zip ms)[i]?=some x->∃g,Acc eJ p9 2 w g x.1 (jX x.2)) ->
  c4 (Gq iV iu iW iX iY w) ((nE.zip ms).map λx=>((0:Int),jx iV iu iW iX iY x.1 x.2)) (BA ms):=by
  intro nE
  induction nE with
  | nil=>intro ms bk _;cases ms with
   | nil=>exact .nil
   | cons _ _=>simp at bk
  | cons vi nE cc =>
   intro ms bk hk
   cases ms with
   | nil=>simp at bk
   | cons m ms =>
    obtain⟨g,aU⟩:=hk 0 (vi,m) rfl
    exact .cons ⟨rfl,vi,rfl,aU.b9.cw (Nat.zero_le _) aU.lt⟩ (cc ms (by simpa using bk) λi x ah=>hk (i+1) x ah)
 refine key nE ms bk λi x ah=>?_
 obtain⟨g,h,_⟩:=bF i _ (by rw[List.getElem?_map,ah];rfl);exact⟨g,h⟩
theorem au.Y2{R bV:Nat->Prop}{w0 w:World}{L:List (dq R)}{iV iu iW iX iY lu p9:TypeId}{v:Value}{m:eY}(h:au R bV w0 w L)(i:Nat)(ar:L[i]?=some (tK iV iu iW iX iY lu p9 v [m])):∃vi,au R bV w0 w (L.set i (bl [aS n3 lu 2 v [((0:Int),jx iV iu iW iX iY vi m)],bl [aS eJ p9 2 vi (jX m)]])):=by
 obtain⟨nE,h1⟩:=h.Mn ar
 have bk:nE.length=1:=by
  obtain⟨F,⟨fh,bF,_⟩,_⟩:=h1.get (i:=i) (by rw[List.getElem?_set_self (List.getElem?_eq_some_iff.1 ar).1])
  exact(bF 1 _ rfl).1
 match nE,bk with
 | [vi],_ =>
  refine⟨vi,?_⟩
  have ag:=h1.imp (A':=bl [aS n3 lu 2 v [((0:Int),jx iV iu iW iX iY vi m)],bl [aS eJ p9 2 vi (jX m)]]) (List.getElem?_set_self (List.getElem?_eq_some_iff.1 ar).1) λF k=>by
   obtain⟨fh,bF,cB,dG⟩:=k
   refine⟨fh,λi r ar=>?_,cB,dG⟩
   match i,ar with
   | 0,ar=>cases ar;exact bF 0 _ rfl
   | 1,ar=>cases ar;exact(bF 1 _ rfl).2
  rwa[List.set_set] at ag
theorem PC{R:Nat->Prop}{k1 qp ji eI u8 lG pf:TypeId}{c9:Nat}{id:Int}{ks:List Int}{s t:ed}{F:Nat->Prop}{w:World}(h:s=t)(x:(jn (R:=R) k1 qp ji eI u8 lG pf c9 id ks s).p F w):(jn (R:=R) k1 qp ji eI u8 lG pf c9 id ks t).p F w:=h▸x
theorem Y3{R:Nat->Prop}{k1 qp ji eI u8 lG pf iV iu iW iX iY lu p9:TypeId}{c9:Nat}{id:Int}{ks:List Int}{v:Value}{p:ed×List eY}{t:ed}{ms:List eY}{F:Nat->Prop}{w:World}(h:p=(t,ms))(x:(bl [jn (R:=R) k1 qp ji eI u8 lG pf c9 id ks p.1,tK iV iu iW iX iY lu p9 v p.2]).p F w):(bl [jn (R:=R) k1 qp ji eI u8 lG pf c9 id ks t,tK iV iu iW iX iY lu p9 v ms]).p F w:=by
 subst h;exact x
end Go.aF
namespace Go.ak
open Go.aF
def Y4(words:List aj)(s:aj):Bool:=qZ words || decide (s.length>100)
theorem asT{words:List aj}{s:aj}(h:Y4 words s=false):qZ words=false/\s.length<=100:=by
 unfold Y4 at h;simp only[Bool.or_eq_false_iff,decide_eq_false_iff_not] at h;exact⟨h.1,by omega⟩
theorem al8{words:List aj}(h:e7 words=0):∀w∈words,j4 w=true:=λw hw=>by
 have:=(wg h).2.1 w hw
 unfold word at this
 simp only[Bool.and_eq_true,decide_eq_true_eq] at this
 have h1:=this.1
 unfold iN at h1
 unfold j4
 split at h1
 . omega
 . exact decide_eq_true bd
end Go.ak
namespace Go.ak
open Go.aF
theorem al9{words:List aj}(h:e7 words=0):∀w∈words,w.length<=1000:=λw hw=>by
 have:=T2 ((wg h).2.1 w hw);omega
end Go.ak
namespace Go.ak
open Go.aF
structure lN(c:cE)(w:Int)(K:List cZ):Prop where
 ok:oJ K
 no:∀k,k∉b0 c w->jN K k=none
 yes:∀k,k∈b0 c w->∃b,jN K k=some (k,gY c k,b)/\(b=gY c k\/∃a x,b=om (gY c k) a x)
theorem lN.new{c:cE}(h:may c=true)(w:Int):lN c w (np c w):=⟨II h w,λk hk=>agq hk,λk hk=>⟨_,VN hk,.inl rfl⟩⟩
theorem lN.put{c:cE}{w:Int}{K:List cZ}(h:lN c w K)(s:Int){f:List UInt8->List UInt8}(bC:∀b,(f b).length=b.length)(aU:∀b,f b=b\/∃a x,f b=om b a x):lN c w (oo K s f):=by
 refine⟨h.ok.put s bC,λk hk=>?_,λk hk=>?_⟩
 . rw[VK,h.no k hk];rfl
 . obtain⟨b,h1,ag⟩:=h.yes k hk;rw[VK,h1,Option.map_some];by_cases aT:k=s
   . exact⟨_,congrArg some (if_pos aT),aU _⟩
   . exact⟨b,congrArg some (if_neg aT),ag⟩
theorem lN.A3{c:cE}{w:Int}{K:List cZ}(h:lN c w K)(s a x:Int):lN c w (xM K s a x):=h.put s (λb=>afV b a x) λb=>.inr ⟨a,x,rfl⟩
theorem lN.Y5{c:cE}{w:Int}{K:List cZ}(h:lN c w K)(s:Int):lN c w (xN K s):=h.put s (λ_=>rfl) λb=>.inl rfl
theorem lN.read{c:cE}{w:Int}{K:List cZ}(h:lN c w K)(k:Int):(k∉b0 c w/\iP K k=[])\/(k∈b0 c w/\iP K k=gY c k)\/(k∈b0 c w/\∃a x,iP K k=om (gY c k) a x):=by
 by_cases hk:k∈b0 c w
 . obtain⟨b,h1,ag⟩:=h.yes k hk;have aB:=(Nc h1).2.1;rcases ag with rfl|⟨a,x,rfl⟩
   . exact .inr (.inl ⟨hk,aB⟩)
   . exact .inr (.inr ⟨hk,a,x,aB⟩)
 . exact .inl ⟨hk,(agr (h.no k hk)).2.1⟩
theorem PD{c:cE}(hm:may c=true){w k:Int}(hk:k∈b0 c w):gY c k=k0 (px c k)/\e7 (px c k)=0:=⟨(VJ hm (CV hk).1 (CV hk).2).1,M9 hm k⟩
theorem Ky{c:cE}(hm:may c=true){w k:Int}(hk:k∈b0 c w){K:List cZ}(h:iP K k=gY c k):gm K k=h7 (px c k)/\kM K k=0/\hq K k=px c k:=by
 obtain⟨h1,ag⟩:=PD hm hk;unfold gm kM hq;rw[h,h1,IB ag,VH ag];exact⟨rfl,rfl,rfl⟩
theorem Y6{b:List UInt8}(h:(iv b).2≠0):(h4 b).1=[]:=by
 rcases VF b with ⟨h1,_⟩|⟨h1,_⟩|⟨_,h1,_⟩
 . rw[h1]
 . rw[h1]
 . exact absurd ((CT b).1.trans h1) h
theorem PE{c:cE}(hm:may c=true){w k:Int}(hk:k∈b0 c w){K:List cZ}{a x:Int}(h:iP K k=om (gY c k) a x):gm K k=[]/\kM K k=9/\hq K k=[]:=by
 obtain⟨h1,ag⟩:=PD hm hk;have hd:=Vu ag a x;unfold gm kM hq;rw[h,h1,hd];exact⟨rfl,rfl,Y6 (by rw[hd];decide)⟩
theorem al_{K:List cZ}{k:Int}(h:iP K k=[]):gm K k=[]/\kM K k≠0/\hq K k=[]:=by
 unfold gm kM hq;rw[h];exact⟨by decide +kernel,by decide +kernel,by decide +kernel⟩
theorem lN.wl{c:cE}{w:Int}{K:List cZ}(hm:may c=true)(h:lN c w K)(bk:c.words.length<=1000)(k:Int):(hq K k).length<=1000:=by
 rcases h.read k with ⟨_,h1⟩|⟨bH,h1⟩|⟨bH,a,x,h1⟩
 . rw[(al_ h1).2.2];exact Nat.zero_le _
 . rw[(Ky hm bH h1).2.2];exact Nat.le_trans (agc k) bk
 . rw[(PE hm bH h1).2.2];exact Nat.zero_le _
theorem sZ(c:cE)(w:Int):w7 (b0 c w):=⟨IG c w,λk hk=>Gm hk,Nat.le_trans (AY c w) b5⟩
theorem Y7{c:cE}(hm:may c=true)(w:Int)(bk:c.words.length<=1000):hX (b0 c w) 1 (sX c w):=
 ⟨⟨(by decide:(0:Int)<=1),Int.le_refl _⟩,II hm w,(by show bY 0;unfold bY;decide),Nat.zero_le _,(λa ax=>nomatch ax),(lN.new hm w).wl hm bk,(lN.new hm w).wl hm bk⟩
def DQ:bf:=⟨0,0,0,0,1,[97],1,2,true,⟨0,[]⟩⟩
def PF:List aj:=[[97],[98]]
def Kz:qo:=⟨0,0,0,0,1,1,[⟨0,[97]⟩,⟨1,[98]⟩],true⟩
def Gr:ed:=sX nq 1
def BB:ed:={ Gr with ep:=1 }
def Gs:ed:={ BB with q:=[DQ] }
theorem PG:(0:Int)∈b0 nq 1:=by rw[agt];simp
theorem Y8:may nq=true:=(Nb VO).1
theorem PH:gm (np nq 1) 0=h7 PF/\hq (np nq 1) 0=PF:=by
 obtain⟨h1,_,aB⟩:=Ky (K:=np nq 1) Y8 PG (ags PG).2.1;have e:px nq 0=PF:=(by decide +kernel);rw[e] at h1 aB;exact⟨h1,aB⟩
theorem al':jm 1 Gr=(Gr,[.hE 1 1]):=Gn b5
theorem Y9:kq 1 (b0 nq 1) Gr (.l4 1 1 1)=BB:=Pt (Pr rfl rfl b5)
theorem Y_:kq 1 (b0 nq 1) BB (.ask DQ)=Gs:=
 Ps (Pq (by decide +kernel) rfl b5 PG (by show gm (np nq 1) 0≠[];rw[PH.1];decide +kernel))
theorem ama:jm 1 Gs=(BB,[.iU Kz]):=by
 refine(Pv b5).trans ?_
 have h:answer 1 Gs DQ=Kz:=by
  unfold answer
  show(let r:=pI (gm (np nq 1) 0) (hq (np nq 1) 0) [97] 1 true ⟨0,[]⟩ 2;(⟨0,0,0,0,1,1,r.1,r.2⟩:qo))=Kz
  rw[PH.1,PH.2]
  decide +kernel
 exact congrArg (λr=>(BB,[eY.iU r])) h
theorem PI:hX (b0 nq 1) 1 Gr:=Y7 Y8 1 b5
theorem Y':DQ.Ok:=⟨by unfold bY;decide,by unfold bY;decide,by unfold bY;decide,by unfold bY;decide,by unfold bY;decide,by unfold bY;decide,by unfold bY;decide,by unfold bY;decide⟩
theorem Za:hX (b0 nq 1) 2 BB:=Y9▸PI.take (id:=1) (m:=.l4 1 1 1) ⟨by unfold bY;decide,by unfold bY;decide,by unfold bY;decide⟩
theorem amb:hX (b0 nq 1) 3 Gs:=Y_▸Za.take (id:=1) (m:=.ask DQ) ⟨Y',by decide,by decide⟩
structure k_ where
 lO:Int
 i:Int
 j:Int
 x:Int
 a:bf
def qM(x:k_):List Value:=[.int .i64 x.lO,.int .i64 x.i,.int .i64 x.j,.int .i64 x.x,.int .i64 x.a.slot,.int .i64 x.a.query,.int .i64 x.a.shard,.int .i64 x.a.seq,.int .i64 x.a.f',aE x.a.text,.int .i64 x.a.k,.int .i64 x.a.batch,.bool x.a.first,.int .i64 x.a.after.cq,aE x.a.after.word]
theorem KA(x:k_):(qM x).length=15:=rfl
structure k_.Ok(y:k_):Prop where
 lO:bY y.lO
 i:bY y.i
 j:bY y.j
 x:bY y.x
 a:y.a.Ok
def qq(x:k_):eY:=if x.lO=1 then .l4 x.i x.j x.x else if x.lO=2 then .ask x.a else if x.lO=3 then .stop x.i x.j else .hE x.i x.j
theorem amc{x:k_}(h:x.lO=1):qq x=.l4 x.i x.j x.x:=if_pos h
theorem amd{x:k_}(h:x.lO=2):qq x=.ask x.a:=by unfold qq;rw[if_neg aa,if_pos h]
theorem ame{x:k_}(h:x.lO=3):qq x=.stop x.i x.j:=by unfold qq;rw[if_neg aa,if_neg aa,if_pos h]
theorem amf{x:k_}(h1:x.lO≠1)(ag:x.lO≠2)(aB:x.lO≠3):qq x=.hE x.i x.j:=by unfold qq;rw[if_neg h1,if_neg ag,if_neg aB]
theorem Zb(id:Int)(ks:List Int)(s:ed)(m:eY):(kq id ks s m).K=s.K/\(kq id ks s m).B=s.B:=by
 unfold kq;split
 . exact⟨rfl,rfl⟩
 . cases m<;>dsimp only<;>first|exact⟨rfl,rfl⟩|(split<;>exact⟨rfl,rfl⟩)
theorem amg{id:Int}{s:ed}{a:bf}(aU:gm s.B a.shard≠[]):(answer id s a).items=(kb (hq s.B a.shard) a.text a.k a.first a.after a.batch).1/\(answer id s a).fin=(kb (hq s.B a.shard) a.text a.k a.first a.after a.batch).2:=by
 obtain⟨h1,ag⟩:=Ni aU;have e:=ahZ (s:=a.text) (k:=a.k) (first:=a.first) (after:=a.after) (batch:=a.batch) aU (aec h1) (al8 h1);exact⟨congrArg (·.1) e,congrArg (·.2) e⟩
theorem amh{id:Int}{s:ed}{a:bf}(aU:gm s.B a.shard≠[]):answer id s a=⟨a.slot,a.query,a.shard,a.seq,id,s.ep,(kb (hq s.B a.shard) a.text a.k a.first a.after a.batch).1,(kb (hq s.B a.shard) a.text a.k a.first a.after a.batch).2⟩:=by
 obtain⟨h1,ag⟩:=amg (id:=id) aU;rw[<-h1,<-ag];rfl
theorem ami{B:List cZ}{k:Int}(aU:gm B k≠[]):∀w∈hq B k,w.length<=1000:=al9 (Ni aU).1
theorem Zc{ks:List Int}{ep life:Int}{K B:List cZ}{q:List bf}{k:Int}(h:(jG ks ⟨ep,true,life,K,B,q⟩ k).2=0):k∈ks/\gm B k≠[]:=by
 by_cases hk:k∈ks
 . refine⟨hk,Kx.2 ?_⟩;by_cases he:kM B k=0
   . exact he
   . rw[Gl hk he] at h;exact h
 . rw[Po hk] at h;exact absurd h b5
theorem amj{ks:List Int}{ep life:Int}{K B:List cZ}{q:List bf}{k:Int}(h:(jG ks ⟨ep,true,life,K,B,q⟩ k).2≠0):k∉ks\/gm B k=[]:=by
 by_cases hk:k∈ks
 . right;by_cases aN:gm B k=[]
   . exact aN
   . exact absurd (by rw[DL hk (Kx.1 aN)]) h
 . exact .inl hk
theorem amk{ks:List Int}{ep life:Int}{K B:List cZ}{q:List bf}{k:Int}(hk:k∈ks)(aN:gm B k≠[]):jG ks ⟨ep,true,life,K,B,q⟩ k=(hq B k,0):=DL hk (Kx.1 aN)
end Go.ak
namespace Go.ak
open Go.aF
theorem PJ{q:List bf}{i:Nat}{x:bf}{p:Int×Int}(fZ:∀z∈q.take i,z.pl≠p)(ah:q[i]?=some x)(hp:x.pl=p):ll q p=some x:=by
 unfold ll;obtain⟨ar,rfl⟩:=List.getElem?_eq_some_iff.1 ah;rw[List.find?_eq_some_iff_getElem];refine⟨decide_eq_true hp,i,ar,rfl,λj bn=>?_⟩;have:=fZ (q[j]'aa) (List.mem_take_iff_getElem.2 ⟨j,by omega,rfl⟩);simpa using this
theorem aml{q:List bf}{i:Nat}{p:Int×Int}(fZ:∀z∈q.take i,z.pl≠p)(ar:q.length<=i):ll q p=none:=by
 rw[List.take_of_length_le ar] at fZ;unfold ll;rw[List.find?_eq_none];intro x ah;simpa using fZ x ah
theorem Zd{q:List bf}{i:Nat}{x:bf}{p:Int×Int}(fZ:∀z∈q.take i,z.pl≠p)(ah:q[i]?=some x)(hp:x.slot≠p.1\/x.shard≠p.2):∀z∈q.take (i+1),z.pl≠p:=by
 intro z cS;rw[List.take_add_one,ah] at cS;simp only[Option.toList_some,List.mem_append,List.mem_singleton] at cS;rcases cS with cS|rfl
 . exact fZ z cS
 . intro e;rw[<-e] at hp;exact hp.elim (λh=>h rfl) (λh=>h rfl)
theorem Gt{x a:bf}(h1:x.slot=a.slot)(ag:x.shard=a.shard):x.pl=a.pl:=Prod.ext h1 ag
theorem Ze{q:List bf}{i:Nat}{x a:bf}(gK:(q.map bf.pl).Nodup)(ah:q[i]?=some x)(hp:x.pl=a.pl):q.set i a=q.map λx=>if x.pl=a.pl then a else x:=by
 obtain⟨ar,rfl⟩:=List.getElem?_eq_some_iff.1 ah;apply List.ext_getElem
 . simp
 . intro j h1 ag;rw[List.getElem_set,List.getElem_map];by_cases bn:i=j
   . subst bn;rw[if_pos rfl,if_pos hp]
   . rw[if_neg bn];have FH:j<q.length:=(by simpa using ag);rw[if_neg];intro e;have:=(List.pairwise_iff_getElem.1 gK);have acu:(q.map bf.pl).length=q.length:=List.length_map ..;rcases Nat.lt_or_gt_of_ne bn with h|h
     . exact this i j aa aa h (by rw[List.getElem_map,List.getElem_map,e,hp])
     . exact this j i aa aa h (by rw[List.getElem_map,List.getElem_map,e,hp])
theorem Zf{q l:List bf}{i:Nat}{x:bf}{slot query:Int}(bk:l=ln (q.take i) slot query)(ah:q[i]?=some x)(h:x.slot≠slot\/x.query>query):l++[x]=ln (q.take (i+1)) slot query:=by
 rw[bk,List.take_add_one,ah];unfold ln;rw[List.filter_append];have:uv slot query x=false:=by unfold uv;exact decide_eq_false aa
 simp[this]
theorem amm{q l:List bf}{i:Nat}{x:bf}{slot query:Int}(bk:l=ln (q.take i) slot query)(ah:q[i]?=some x)(h1:x.slot=slot)(ag:¬ x.query>query):l=ln (q.take (i+1)) slot query:=by
 rw[bk,List.take_add_one,ah];unfold ln;rw[List.filter_append];have:uv slot query x=true:=by unfold uv;exact decide_eq_true aa
 simp[this]
theorem DR{a:bf}(h:vt [a.query,a.seq,a.f']=false\/¬ (0<=a.slot/\a.slot<=3)\/¬ (0<=a.shard/\a.shard<=5)\/¬ (0<=a.k/\a.k<=4)\/¬ (1<=a.batch/\a.batch<=5)\/asked a.text=false):false=nV a:=by
 symm;unfold nV;rcases h with h|h|h|h|h|h
 . rw[h];simp
 . have:tw a.slot a.shard=false:=by unfold tw;exact decide_eq_false aa
   rw[this];simp
 . have:tw a.slot a.shard=false:=by unfold tw;exact decide_eq_false aa
   rw[this];simp
 . rw[decide_eq_false (p:=0<=a.k/\a.k<=4/\1<=a.batch/\a.batch<=5) aa];simp
 . rw[decide_eq_false (p:=0<=a.k/\a.k<=4/\1<=a.batch/\a.batch<=5) aa];simp
 . rw[h];simp
theorem amn{a:bf}{b:Bool}(h1:vt [a.query,a.seq,a.f']=true)(ag:0<=a.slot/\a.slot<=3)(aB:0<=a.shard/\a.shard<=5)(bE:0<=a.k/\a.k<=4)(c3:1<=a.batch/\a.batch<=5)(eX:asked a.text=true)(ab:b=wH a):b=nV a:=by
 have kC:tw a.slot a.shard=true:=(by unfold tw;exact decide_eq_true aa);unfold nV;rw[h1,eX,kC,decide_eq_true (p:=0<=a.k/\a.k<=4/\1<=a.batch/\a.batch<=5) aa,ab];simp
def DS(vi:Value):eY->List Value
 | .hE a b=>[.int .i64 1,.int .i64 a,.int .i64 b,.int .i64 0,.int .i64 0,.int .i64 0,.int .i64 0,.int .i64 0,.int .i64 0,.int .i64 0,.int .i64 0,aE [],.int .i64 0,.int .i64 0,.bool false,.int .i64 0,aE [],.int .i64 0,.int .i64 0,.int .i64 0,.int .i64 0,.int .i64 0,.int .i64 0,.slice none 0 0,.bool false,.int .i64 0,.int .i64 0]
 | .l4 a b c=>[.int .i64 2,.int .i64 0,.int .i64 0,.int .i64 a,.int .i64 b,.int .i64 c,.int .i64 0,.int .i64 0,.int .i64 0,.int .i64 0,.int .i64 0,aE [],.int .i64 0,.int .i64 0,.bool false,.int .i64 0,aE [],.int .i64 0,.int .i64 0,.int .i64 0,.int .i64 0,.int .i64 0,.int .i64 0,.slice none 0 0,.bool false,.int .i64 0,.int .i64 0]
 | .ask a=>[.int .i64 3,.int .i64 0,.int .i64 0,.int .i64 0,.int .i64 0,.int .i64 0,.int .i64 a.slot,.int .i64 a.query,.int .i64 a.shard,.int .i64 a.seq,.int .i64 a.f',aE a.text,.int .i64 a.k,.int .i64 a.batch,.bool a.first,.int .i64 a.after.cq,aE a.after.word,.int .i64 0,.int .i64 0,.int .i64 0,.int .i64 0,.int .i64 0,.int .i64 0,.slice none 0 0,.bool false,.int .i64 0,.int .i64 0]
 | .iU r=>[.int .i64 4,.int .i64 0,.int .i64 0,.int .i64 0,.int .i64 0,.int .i64 0,.int .i64 0,.int .i64 0,.int .i64 0,.int .i64 0,.int .i64 0,aE [],.int .i64 0,.int .i64 0,.bool false,.int .i64 0,aE [],.int .i64 r.slot,.int .i64 r.query,.int .i64 r.shard,.int .i64 r.seq,.int .i64 r.worker,.int .i64 r.f',vi,.bool r.fin,.int .i64 0,.int .i64 0]
 | .stop a b=>[.int .i64 5,.int .i64 0,.int .i64 0,.int .i64 0,.int .i64 0,.int .i64 0,.int .i64 0,.int .i64 0,.int .i64 0,.int .i64 0,.int .i64 0,aE [],.int .i64 0,.int .i64 0,.bool false,.int .i64 0,aE [],.int .i64 0,.int .i64 0,.int .i64 0,.int .i64 0,.int .i64 0,.int .i64 0,.slice none 0 0,.bool false,.int .i64 a,.int .i64 b]
theorem Zg(vi:Value)(m:eY):(DS vi m).length=27:=by cases m<;>rfl
def s0(x:Value×eY):List Value:=.int .i64 0::DS x.1 x.2
theorem yu(x:Value×eY):(s0 x).length=28:=congrArg (· + 1) (Zg x.1 x.2)
def kr(ks:List Int)(B:List cZ):List (Int×List aj×Int):=ks.map λk=>(k,hq B k,kM B k)
def DT(ks:List Int)(s:ed):List (Int×List aj×Int):=if s.up=true then kr ks s.B else[]
theorem amo{ks:List Int}{B:List cZ}{i:Nat}{k:Int}(hk:ks[i]?=some k):kr (ks.take i) B++[(k,hq B k,kM B k)]=kr (ks.take (i+1)) B:=by
 unfold kr;rw[List.take_add_one,hk,Option.toList_some,List.map_append];rfl
theorem amp{B:List cZ}{k:Int}(h:kM B k≠0):hq B k=[]:=Y6 h
theorem amq(B:List cZ)(k:Int):(h4 (iP B k)).2=kM B k:=((CT _).1).symm
theorem amr{ks:List Int}{ep life:Int}{K B:List cZ}{q:List bf}{k:Int}{i:Nat}{e:Int×List aj×Int}(ah:(kr ks B)[i]?=some e)(he:e.1=k):jG ks ⟨ep,true,life,K,B,q⟩ k=(e.2.1,e.2.2):=by
 unfold kr at ah;rw[List.getElem?_map] at ah
 cases hk:ks[i]? with
 | none=>rw[hk] at ah;cases ah
 | some cB =>
  rw[hk] at ah;have ag:=Option.some.inj ah;subst ag;dsimp only at he;subst he;have hm:=List.mem_of_getElem? hk;by_cases bH:kM B cB=0
  . rw[DL hm bH];dsimp only;rw[bH]
  . rw[Gl hm bH];dsimp only;rw[amp bH]
theorem ams{ks:List Int}{ep life:Int}{K B:List cZ}{q:List bf}{k:Int}(h:∀z∈kr ks B,z.1≠k):jG ks ⟨ep,true,life,K,B,q⟩ k=([],4):=by
 exact Po λhk=>h _ (List.mem_map_of_mem (f:=λk=>(k,hq B k,kM B k)) hk) rfl
theorem amt{S:List (Int×List aj×Int)}{i:Nat}{e:Int×List aj×Int}{k:Int}(fZ:∀z∈S.take i,z.1≠k)(ah:S[i]?=some e)(he:e.1≠k):∀z∈S.take (i+1),z.1≠k:=by
 intro z cS;rw[List.take_add_one,ah] at cS;simp only[Option.toList_some,List.mem_append,List.mem_singleton] at cS;rcases cS with cS|rfl
 . exact fZ z cS
 . exact he
end Go.ak
namespace Go.aF
open Go Go.ak
structure oB where
 n:Int
 w:cP
 e:Int
def iJ(x:oB):List Value:=[.int .i64 x.n,x.w.val,.int .i64 x.e]
theorem KB(x:oB):(iJ x).length=3:=rfl
theorem amu(x:oB):(iJ x).all (·.oneCell')=true:=rfl
def iZ{R:Nat->Prop}(rows:List oB)(S:List (Int×List aj×Int)):dq R:=⟨λF w=>c4 (λr e=>r.n=e.1/\aq cz w F r.w.val e.2.1/\r.e=e.2.2) rows S,λh hm br _=>c4.imp (λ_ _ k=>⟨k.1,k.2.1.keep hm br,k.2.2⟩) h⟩
theorem amv{R F:Nat->Prop}{w:World}{rows:List oB}{S:List (Int×List aj×Int)}{t:TypeId}{x:cP}{v:Value}{n e:Int}{l:List aj}(cN:v=x.val)(h:(bl (R:=R) [iZ rows S,aS cz t 1 v l]).p F w):(iZ (R:=R) (rows++[⟨n,x,e⟩]) (S++[(n,l,e)])).p F w:=by
 obtain⟨fr,bw,h1,ag,aB,bE⟩:=vd h;exact c4.app (c4.imp (λ_ _ k=>⟨k.1,k.2.1.mono aB,k.2.2⟩) h1) (.cons ⟨rfl,cN▸(tn ag).mono bE,rfl⟩ .nil)
def k'{R:Nat->Prop}(lG DU:TypeId)(dd:Nat)(q:List bf):dq R:=nN λv:Value=>bl [ay dd [v] lG,aS eO DU 11 v q]
def ib{R:Nat->Prop}(qp CW eI KC lG DU:TypeId)(bv:Nat)(da db:Value)(c:cE)(id:Int)(s:ed):dq R:=nN λx:Nat×Nat×Value×List oB =>
 bl [ay bv [da,db,.int .i64 c.workers,.int .i64 c.lP,.int .i64 c.s9,.int .i64 c.batch,.int .i64 c.s_,.int .i64 c.s',.int .i64 c.first,.int .i64 c.cap,.int .i64 c.ta,.int .i64 c.tc,.int .i64 id,ptr x.1 0,.bool s.up,.int .i64 (DK s),x.2.2.1,ptr x.2.1 0] qp,kx CW eI x.1 s.life s.K,aS iJ KC 3 x.2.2.1 x.2.2.2,iZ x.2.2.2 (DT (b0 c id) s),k' lG DU x.2.1 (Gk s)]
theorem w'{R F:Nat->Prop}{w:World}{α:Type}{enc:α->List Value}{e:TypeId}{sz:Nat}{v:Value}{l j2:List α}(bk:l=j2)(h:(aS (R:=R) enc e sz v l).p F w):(aS (R:=R) enc e sz v j2).p F w:=by subst bk;exact h
theorem au.mY{R bV:Nat->Prop}{w0 w:World}{L:List (dq R)}{qp CW eI KC lG DU:TypeId}{bv df dd:Nat}{da db nQ:Value}{c:cE}{id:Int}{s:ed}{rows:List oB}(h:au R bV w0 w L)(i:Nat)
 (ar:L[i]?=some (bl [ay bv [da,db,.int .i64 c.workers,.int .i64 c.lP,.int .i64 c.s9,.int .i64 c.batch,.int .i64 c.s_,.int .i64 c.s',.int .i64 c.first,.int .i64 c.cap,.int .i64 c.ta,.int .i64 c.tc,.int .i64 id,ptr df 0,.bool s.up,.int .i64 (DK s),nQ,ptr dd 0] qp,kx CW eI df s.life s.K,aS iJ KC 3 nQ rows,iZ rows (DT (b0 c id) s),k' lG DU dd (Gk s)])):au R bV w0 w (L.set i (ib qp CW eI KC lG DU bv da db c id s)):=
 h.imp ar λF x=>⟨(df,dd,nQ,rows),x⟩
def vQ{R:Nat->Prop}(lu:TypeId)(v:Value)(ms:List eY):dq R:=nN λnE:List Value=>bl [aS s0 lu 28 v (nE.zip ms),pA (nE.length=ms.length) (bl ((nE.zip ms).map λx=>fe eJ [(x.1,jX x.2)]))]
theorem amw{R:Nat->Prop}{lu:TypeId}{w:World}:(vQ (R:=R) lu (.slice none 0 0) []).p (λ_=>False) w:=
 ⟨[],λ_ _=>False,λi r ar=>by
  match i,ar with
  | 0,ar=>cases ar;exact⟨0,Acc.nil,λb ab=>by omega⟩
  | 1,ar=>cases ar;exact⟨rfl,λ_ _=>False,⟨λi r ar=>by simp at ar,⟨λ_ _ h=>False.elim h,λ_ _ _ _ h _=>False.elim h⟩⟩⟩,λ_ _ h=>h.elim,λ_ _ _ _ h _=>h.elim⟩
theorem PK{R:Nat->Prop}{lu:TypeId}{F:Nat->Prop}{w:World}{v vi:Value}{m:eY}(h:(bl [aS (R:=R) s0 lu 28 v [(vi,m)],bl [fe eJ [(vi,jX m)]]]).p F w):(vQ (R:=R) lu v [m]).p F w:=by
 obtain⟨fh,h1,ag,aB⟩:=h;refine⟨[vi],fh,λi r ar=>?_,ag,aB⟩
 match i,ar with
 | 0,ar=>cases ar;exact h1 0 _ rfl
 | 1,ar=>cases ar;exact⟨rfl,h1 1 _ rfl⟩
theorem au.Zh{R bV:Nat->Prop}{w0 w:World}{L:List (dq R)}{i:Nat}{rows:List oB}{S:List (Int×List aj×Int)}(h:au R bV w0 w L)(ar:L[i]?=some (iZ rows S)):c4 (λr e=>r.n=e.1/\aq cz w (dr 0 w.heap.size) r.w.val e.2.1/\r.e=e.2.2) rows S:=by
 obtain⟨F,h1,ag⟩:=h.get ar;exact c4.imp (λ_ _ k=>⟨k.1,k.2.1.mono (λb ab=>⟨Nat.zero_le _,ag b ab⟩),k.2.2⟩) h1
theorem amx{R F:Nat->Prop}{w:World}{lG pf:TypeId}{dd:Nat}{q:List bf}(h:(jQ (R:=R) lG pf dd q).p F w):(q.map bf.pl).Nodup:=by
 obtain⟨_,dB,_⟩:=h;exact js.vq dB
end Go.aF
namespace Go.ak
open Go.aF
def nF(id:Int)(ks:List Int)(s:ed)(x:k_):ed:=
 if x.lO=0 then(jm id s).1 else if 1<=x.lO/\x.lO<=4 then kq id ks s (qq x) else
 if x.lO=5 then { s with up:=false } else if x.lO=6 then(if s.up=true then s else rA s) else
 if x.lO=7 then { s with K:=xM s.K x.i x.j x.x } else if x.lO=8 then { s with K:=xN s.K x.i } else s
section
variable {id:Int} {ks:List Int} {s:ed} {x:k_}
theorem amy(h:x.lO=0):nF id ks s x=(jm id s).1:=if_pos h
theorem KD(h:1<=x.lO/\x.lO<=4):nF id ks s x=kq id ks s (qq x):=by unfold nF;rw[if_neg aa,if_pos h]
theorem amz(h:x.lO=5):nF id ks s x={ s with up:=false }:=by unfold nF;rw[if_neg aa,if_neg aa,if_pos h]
theorem amA(h:x.lO=6):nF id ks s x=(if s.up=true then s else rA s):=by unfold nF;rw[if_neg aa,if_neg aa,if_neg aa,if_pos h]
theorem amB(h:x.lO=7):nF id ks s x={ s with K:=xM s.K x.i x.j x.x }:=by unfold nF;rw[if_neg aa,if_neg aa,if_neg aa,if_neg aa,if_pos h]
theorem amC(h:x.lO=8):nF id ks s x={ s with K:=xN s.K x.i }:=by unfold nF;rw[if_neg aa,if_neg aa,if_neg aa,if_neg aa,if_neg aa,if_pos h]
theorem amD(h:¬ (0<=x.lO/\x.lO<=8)):nF id ks s x=s:=by
 unfold nF;rw[if_neg aa,if_neg aa,if_neg aa,if_neg aa,if_neg aa,if_neg aa]
end
structure kW(c:cE)(id:Int)(n:Nat)(s:ed):Prop where
 ok:hX (b0 c id) n s
 K:lN c id s.K
 B:lN c id s.B
section
variable {c:cE} {id:Int} {n:Nat} {s:ed}
theorem Zi(id:Int)(s:ed):(jm id s).1.K=s.K/\(jm id s).1.B=s.B:=by
 unfold jm;split
 . exact⟨rfl,rfl⟩
 . split
   . split<;>exact⟨rfl,rfl⟩
   . exact⟨rfl,rfl⟩
theorem yv{x:k_}(h:x.Ok)(a8:x.a.text.length<=1000)(ax:x.a.after.word.length<=1000):(qq x).Ok:=by
 unfold qq;split
 . exact⟨h.i,h.j,h.x⟩
 . split
   . exact⟨h.a,a8,ax⟩
   . split
     . exact⟨h.i,h.j⟩
     . exact⟨h.i,h.j⟩
theorem uL(x:k_)(r:qo):qq x≠.iU r:=by
 unfold qq;split
 . exact λe=>by cases e
 . split
   . exact λe=>by cases e
   . split<;>exact λe=>by cases e
theorem kW.new(hm:may c=true)(bk:c.words.length<=1000)(id:Int):kW c id 1 (sX c id):=⟨Y7 hm id bk,lN.new hm id,lN.new hm id⟩
theorem kW.more{m:Nat}(h:kW c id n s)(hm:n<=m):kW c id m s:=⟨h.ok.more hm,h.K,h.B⟩
theorem kW.take{m:eY}(h:kW c id n s)(hm:m.Ok):kW c id (n+1) (kq id (b0 c id) s m):=
 ⟨h.ok.take hm,by rw[(Zb ..).1];exact h.K,by rw[(Zb ..).2];exact h.B⟩
theorem kW.Pn(h:kW c id n s):kW c id n (jm id s).1:=⟨h.ok.Pn,by rw[(Zi ..).1];exact h.K,by rw[(Zi ..).2];exact h.B⟩
theorem kW.Kv(h:kW c id n s):kW c id n { s with up:=false }:=⟨h.ok.Kv,h.K,h.B⟩
theorem kW.begin(h:kW c id n s):kW c id (n+1) (rA s):=⟨h.ok.begin,h.K,h.K⟩
theorem kW.Kw{K:List cZ}(hm:may c=true)(bk:c.words.length<=1000)(h:kW c id n s)(eC:lN c id K):kW c id n { s with K:=K }:=⟨h.ok.Kw eC.ok (eC.wl hm bk),eC,h.B⟩
theorem kW.done{x:k_}(hm:may c=true)(bk:c.words.length<=1000)(h:kW c id n s)(ah:x.Ok)(a8:x.a.text.length<=1000)(ax:x.a.after.word.length<=1000):kW c id (n+1) (nF id (b0 c id) s x):=by
 have h1:=h.more (Nat.le_succ n);unfold nF;split
 . exact h1.Pn
 . split
   . exact h.take (yv ah a8 ax)
   . split
     . exact h1.Kv
     . split
       . split
         . exact h1
         . exact h.begin
       . split
         . exact h1.Kw hm bk (h.K.A3 _ _ _)
         . split
           . exact h1.Kw hm bk (h.K.Y5 _)
           . exact h1
end
theorem Zj(id:Int){ks:List Int}{n:Nat}{s:ed}(h:hX ks n s):(jm id s).2=[]\/(∃a b,(jm id s).2=[.hE a b])\/∃r,(jm id s).2=[.iU r]/\r.items.length<=1000000:=by
 unfold jm;split
 . exact .inl rfl
 . split
   . split
     . rename_i a q dB;refine .inr (.inr ⟨_,rfl,?_⟩);have h1:=ahL (g:=gm s.B a.shard) (words:=hq s.B a.shard) (s:=a.text) (k:=a.k) (batch:=a.batch) (first:=a.first) (after:=a.after);have ag:=h.c9 a.shard;show(pI _ _ _ _ _ _ _).1.length<=_;omega
     . exact .inr (.inl ⟨_,_,rfl⟩)
   . exact .inr (.inl ⟨_,_,rfl⟩)
end Go.ak
namespace Go.aF
open Go Go.ak
def amE(iV iu iW iX iY:TypeId)(x:Value×eY):List Value:=[.int .i64 0,jx iV iu iW iX iY x.1 x.2]
def Zk(iV iu iW iX iY:TypeId)(x:Value×eY):Int×Value:=((0:Int),jx iV iu iW iX iY x.1 x.2)
theorem aq.map{α β:Type}{enc:α->List Value}{Zl:β->List Value}{f:α->β}(bC:∀x,Zl (f x)=enc x){w:World}{F:Nat->Prop}{v:Value}{l:List α}(h:aq enc w F v l):aq Zl w F v (l.map f):=by
 obtain⟨a,cap,h1,ag,aB,bE⟩:=h;refine⟨a,cap,by rw[List.length_map];exact h1,by rw[List.length_map];exact ag,aB,?_⟩;rcases bE with rfl|⟨b,off,c3,eX,kC⟩
 . exact .inl rfl
 . exact .inr ⟨b,off,c3,eX,by rw[List.flatMap_map];simpa only[bC] using kC⟩
theorem amF{w:World}{b o:Nat}{x:Value×eY}(h:Row w b o (s0 x)):Row w b (o+1) (DS x.1 x.2):=λi v cN=>by
 have:=h (i+1) v (by rw[s0,List.getElem?_cons_succ];exact cN)
 rwa[show o+(i+1)=o+1+i by omega] at this
theorem Zm{iV iu iW iX iY:TypeId}{w:World}:∀{xs:List (Value×eY)},(∀x∈xs,aq eJ w (dr 0 w.heap.size) x.1 (jX x.2))->c4 (Gq iV iu iW iX iY w) (xs.map (Zk iV iu iW iX iY)) (BA (xs.map (·.2)))
 | [],_=>.nil
 | x::xs,h=>.cons ⟨rfl,x.1,rfl,h x (List.mem_cons_self ..)⟩ (Zm λy aD=>h y (List.mem_cons_of_mem _ aD))
def KE{R:Nat->Prop}(lu:TypeId)(v:Value)(xs:List (Value×eY)):dq R:=bl [aS s0 lu 28 v xs,bl (xs.map λx=>fe eJ [(x.1,jX x.2)])]
theorem au.amG{R bV:Nat->Prop}{w0 w:World}{L:List (dq R)}{lu:TypeId}{v:Value}{ms:List eY}(h:au R bV w0 w L)(i:Nat)(ar:L[i]?=some (vQ lu v ms)):∃xs,xs.map (·.2)=ms/\au R bV w0 w (L.set i (KE lu v xs)):=by
 obtain⟨nE,h1⟩:=h.Mn ar
 have bk:nE.length=ms.length:=by
  obtain⟨F,⟨fh,bF,_⟩,_⟩:=h1.get (i:=i) (by rw[List.getElem?_set_self (List.getElem?_eq_some_iff.1 ar).1])
  exact(bF 1 _ rfl).1
 refine⟨nE.zip ms,by rw[List.map_snd_zip (Nat.le_of_eq bk.symm)],?_⟩
 have ag:=h1.imp (A':=KE lu v (nE.zip ms)) (List.getElem?_set_self (List.getElem?_eq_some_iff.1 ar).1) λF k=>by
  obtain⟨fh,bF,cB,dG⟩:=k
  refine⟨fh,λi r ar=>?_,cB,dG⟩
  match i,ar with
  | 0,ar=>cases ar;exact bF 0 _ rfl
  | 1,ar=>cases ar;exact(bF 1 _ rfl).2
 rwa[List.set_set] at ag
theorem au.Zn{R bV:Nat->Prop}{w0 w:World}{L:List (dq R)}{lu:TypeId}{v:Value}{xs:List (Value×eY)}(h:au R bV w0 w L)(i:Nat)(ar:L[i]?=some (KE lu v xs)):aq s0 w (dr 0 w.heap.size) v xs/\∀x∈xs,aq eJ w (dr 0 w.heap.size) x.1 (jX x.2):=by
 obtain⟨F,⟨fh,h1,ag,_⟩,br⟩:=h.get ar;refine⟨(tn (h1 0 _ rfl)).mono λb ab=>⟨Nat.zero_le _,br b (ag 0 b ab).1.1⟩,λx ah=>?_⟩;obtain⟨Y1,bF,cB,_⟩:=h1 1 _ rfl;obtain⟨j,bn⟩:=List.getElem?_of_mem ah;have aT:aq eJ w (λb=>Y1 j b\/R b) x.1 (jX x.2):=bF j (fe eJ [(x.1,jX x.2)]) (by rw[List.getElem?_map,bn];rfl) (x.1,jX x.2) (List.mem_cons_self ..);exact aT.mono λb ab=>⟨Nat.zero_le _,ab.elim (λab=>br b (ag 1 b (cB j b ab).1.1).1.1) (h.ug b)⟩
end Go.aF
namespace Go.ak
open Go.aF
def xa(x:k_):Bool:=decide (x.a.text.length>100) || decide (x.a.after.word.length>100)
def BC(c:cE)(acts:List k_)(nh:Int):Bool:=(decide ((acts.length:Int)<=nh) && acts.any xa) || (ss c || decide ((acts.length:Int)>nh))
theorem amH{c:cE}{acts:List k_}{nh:Int}(h:BC c acts nh=false):ss c=false/\(acts.length:Int)<=nh/\∀a∈acts,a.a.text.length<=100/\a.a.after.word.length<=100:=by
 unfold BC at h;simp only[Bool.or_eq_false_iff,Bool.and_eq_false_iff,decide_eq_false_iff_not] at h;obtain⟨h1,ag,aB⟩:=h;refine⟨ag,by omega,λa ax=>?_⟩;rcases h1 with h1|h1
 . omega
 . rw[List.any_eq_false] at h1;have:=h1 a ax;unfold xa at this;simp only[Bool.not_eq_true,Bool.or_eq_false_iff,decide_eq_false_iff_not] at this;omega
theorem Zo{c:cE}{acts:List k_}{nh:Int}{i:Nat}{x:k_}(ah:acts[i]?=some x)(hm:(acts.length:Int)<=nh)(h:(x.a.text.length:Int)>100\/(x.a.after.word.length:Int)>100):true=BC c acts nh:=by
 unfold BC;have h1:acts.any xa=true:=List.any_eq_true.2 ⟨x,List.mem_of_getElem? ah,by unfold xa;rcases h with h|h<;>simp<;>omega⟩;rw[h1,decide_eq_true hm];rfl
theorem amI{c:cE}{acts:List k_}{nh:Int}{i:Nat}{b:Bool}(aN:∀z∈acts.take i,xa z=false)(ar:acts.length<=i\/(acts.length:Int)>nh)(ab:b=(ss c || decide ((acts.length:Int)>nh))):b=BC c acts nh:=by
 rw[ab];unfold BC;rcases ar with ar|ar
 . rw[List.take_of_length_le ar] at aN;have:acts.any xa=false:=List.any_eq_false.2 λx ah=>by simp[aN x ah]
   rw[this,Bool.and_false,Bool.false_or]
 . rw[decide_eq_false (by omega:¬ (acts.length:Int)<=nh),Bool.false_and,Bool.false_or]
theorem amJ{acts:List k_}{i:Nat}{x:k_}(aN:∀z∈acts.take i,xa z=false)(ah:acts[i]?=some x)(h1:¬ (x.a.text.length:Int)>100)(ag:¬ (x.a.after.word.length:Int)>100):∀z∈acts.take (i+1),xa z=false:=by
 intro z cS;rw[List.take_add_one,ah] at cS;simp only[Option.toList_some,List.mem_append,List.mem_singleton] at cS;rcases cS with cS|rfl
 . exact aN z cS
 . unfold xa;rw[decide_eq_false aa,decide_eq_false aa];rfl
theorem amK{c:cE}{id:Int}(hm:may c=true)(bk:c.words.length<=1000){acts:List k_}(ah:∀a∈acts,a.Ok/\a.a.text.length<=1000/\a.a.after.word.length<=1000):kW c id (acts.length+1) (acts.foldl (nF id (b0 c id)) (sX c id)):=by
 have key:∀(l:List k_) (n:Nat) (s:ed),(∀a∈l,a.Ok/\a.a.text.length<=1000/\a.a.after.word.length<=1000)->kW c id n s->kW c id (l.length+n) (l.foldl (nF id (b0 c id)) s):=by
  intro l
  induction l with
  | nil=>intro n s _ h;simpa using h
  | cons a l cc =>
   intro n s dp h
   obtain⟨h1,ag,aB⟩:=dp a (List.mem_cons_self ..)
   have:=cc (n+1) (nF id (b0 c id) s a) (λb ab=>dp b (List.mem_cons_of_mem _ ab)) (h.done hm bk h1 ag aB)
   rw[List.length_cons,List.foldl_cons]
   exact this.more aa
 exact key acts 1 _ ah (kW.new hm bk id)
section
variable {c:cE} {id:Int} {n:Nat} {s:ed} {k:Int}
theorem serve(hm:may c=true)(ft:lN c id s.B)(hk:k∈b0 c id):(s.up=false/\jG (b0 c id) s k=([],10))\/(s.up=true/\(jG (b0 c id) s k=(px c k,0)\/jG (b0 c id) s k=([],9))):=by
 obtain⟨ep,up,life,K,B,q⟩:=s
 cases up with
 | false=>exact .inl ⟨rfl,YP⟩
 | true =>
  refine .inr ⟨rfl,?_⟩;rcases ft.read k with ⟨bH,_⟩|⟨_,h1⟩|⟨_,a,x,h1⟩
  . exact absurd hk bH
  . obtain⟨_,ag,aB⟩:=Ky hm hk (K:=B) h1;exact .inl (by rw[DL hk ag,aB])
  . obtain⟨_,ag,_⟩:=PE hm hk (K:=B) h1;exact .inr (by rw[Gl hk (by rw[ag];decide),ag])
theorem Zp(hm:may c=true)(ft:lN c id s.B)(hk:k∈b0 c id)(he:(jG (b0 c id) s k).2=0):(jG (b0 c id) s k).1=px c k:=by
 rcases serve hm ft hk with ⟨_,h⟩|⟨_,h|h⟩
 . rw[h] at he;exact absurd he b5
 . rw[h]
 . rw[h] at he;exact absurd he b5
theorem amL(hm:may c=true)(ft:lN c id s.B)(hk:k∈b0 c id)(he:(jG (b0 c id) s k).2≠0):(jG (b0 c id) s k).1=[]:=by
 rcases serve hm ft hk with ⟨_,h⟩|⟨_,h|h⟩
 . rw[h]
 . rw[h] at he;exact absurd rfl he
 . rw[h]
theorem amM{words:List aj}(h:e7 words=0)(a x:Int):om (k0 words) a x≠k0 words:=λe=>by
 have h1:=Vu h a x
 rw[e,IB h] at h1
 exact absurd (congrArg (·.2) h1) (by decide:(0:Int)≠9)
theorem Zq(hm:may c=true)(eC:lN c id s.K)(hk:k∈b0 c id):(sE s.K k=true/\jG (b0 c id) (rA s) k=([],9))\/(sE s.K k=false/\jG (b0 c id) (rA s) k=(px c k,0)):=by
 obtain⟨b,h1,ag⟩:=eC.yes k hk;obtain⟨_,aB,bE⟩:=Nc h1;rcases ag with rfl|⟨a,x,rfl⟩
 . refine .inr ⟨by rw[bE];exact decide_eq_false λh=>h rfl,?_⟩;obtain⟨_,c3,eX⟩:=Ky hm hk aB;exact(DL hk c3).trans (by rw[eX])
 . refine .inl ⟨by rw[bE];exact decide_eq_true (by obtain⟨g1,g2⟩:=PD hm hk;dsimp only;rw[g1];exact amM g2 a x),?_⟩;obtain⟨_,c3,_⟩:=PE hm hk aB;exact(Gl hk (by rw[c3];decide)).trans (by rw[c3])
theorem amN(hm:may c=true)(eC:lN c id s.K)(hk:k∈b0 c id)(he:(jG (b0 c id) (rA s) k).2≠0):(jG (b0 c id) (rA s) k).2=9:=by
 rcases Zq hm eC hk with ⟨_,ag⟩|⟨_,ag⟩
 . rw[ag]
 . rw[ag] at he;exact absurd rfl he
theorem amO{b r:Bool}(hm:may c=true)(eC:lN c id s.K)(hk:k∈b0 c id)(a':r=sE s.K k)(ab:b=((jG (b0 c id) (rA s) k).2==9)):(!(r==b))=false:=by
 rw[a',ab];rcases Zq hm eC hk with ⟨h1,ag⟩|⟨h1,ag⟩<;>rw[h1,ag]<;>rfl
theorem Zr{b u:Bool}(hm:may c=true)(ft:lN c id s.B)(hk:k∈b0 c id)(hu:u=s.up)(ab:b=((jG (b0 c id) s k).2==10)):(u==b)=false:=by
 rw[hu,ab];rcases serve hm ft hk with ⟨h1,h⟩|⟨h1,h|h⟩<;>rw[h,h1]<;>rfl
end
end Go.ak
namespace Go.Proofs
open Tryz
open Go.aF Go.ak
theorem KF:eu Tryz.prog 20=some (false,1,16,[.nilIface]):=aQ
theorem Zs:eu Tryz.prog 28=some (false,1,8,[ad]):=aQ
theorem n4:eu Tryz.prog 38=some (true,3,24,[ad,ad,ad]):=aQ
theorem rC:eu Tryz.prog 39=some (false,1,24,[.slice none 0 0]):=aQ
theorem qN:eu Tryz.prog 44=some (true,2,24,[ad,.nilIface]):=aQ
theorem uM:eu Tryz.prog 46=some (true,2,16,[ad,ad]):=aQ
theorem p0:eu Tryz.prog 49=some (true,8,80,[ad,ad,ad,ad,ad,ad,.slice none 0 0,.bool false]):=aQ
theorem PL:eu Tryz.prog 62=some (false,1,8,[.pointer none]):=aQ
theorem uN:eu Tryz.prog 71=some (true,15,136,[ad,ad,ad,ad,ad,ad,ad,ad,ad,aE [],ad,ad,.bool false,ad,aE []]):=aQ
theorem Gu:eu Tryz.prog 92=some (false,1,8,[.map none]):=aQ
theorem KG:eu Tryz.prog 101=some (true,2,16,[.pointer none,ad]):=aQ
theorem ki:eu Tryz.prog 104=some (true,2,16,[ad,ad]):=aQ
theorem BD:eu Tryz.prog 127=some (false,1,8,[.pointer none]):=aQ
theorem zP:eu Tryz.prog 130=some (false,1,24,[.slice none 0 0]):=aQ
theorem DV:eu Tryz.prog 131=some (false,1,8,[.pointer none]):=aQ
theorem tL:eu Tryz.prog 140=some (true,27,248,[ad,ad,ad,ad,ad,ad,ad,ad,ad,ad,ad,aE [],ad,ad,.bool false,ad,aE [],ad,ad,ad,ad,ad,ad,.slice none 0 0,.bool false,ad,ad]):=aQ
theorem yw:eu Tryz.prog 147=some (false,1,24,[.slice none 0 0]):=aQ
theorem zQ:eu Tryz.prog 194=some (true,3,56,[ad,.slice none 0 0,.slice none 0 0]):=aQ
theorem Gv:eu Tryz.prog 198=some (true,3,40,[ad,.slice none 0 0,ad]):=aQ
theorem zR:eu Tryz.prog 200=some (true,28,256,[ad,ad,ad,ad,ad,ad,ad,ad,ad,ad,ad,ad,aE [],ad,ad,.bool false,ad,aE [],ad,ad,ad,ad,ad,ad,.slice none 0 0,.bool false,ad,ad]):=aQ
theorem zS:eu Tryz.prog 249=some (false,1,24,[.slice none 0 0]):=aQ
theorem sj:eu Tryz.prog 251=some (true,2,32,[.bool false,.slice none 0 0]):=aQ
theorem DW:eu Tryz.prog 252=some (true,2,16,[ad,ad]):=aQ
theorem qO:eu Tryz.prog 286=some (false,1,24,[.slice none 0 0]):=aQ
theorem uO:eu Tryz.prog 290=some (true,2,48,[.slice none 0 0,.slice none 0 0]):=aQ
theorem Zt:dI Tryz.prog 38 0=some 0:=aQ
theorem Zu:dI Tryz.prog 38 1=some 1:=aQ
theorem KH:dI Tryz.prog 38 2=some 2:=aQ
theorem Zv:dI Tryz.prog 44 0=some 0:=aQ
theorem KI:dI Tryz.prog 44 1=some 1:=aQ
theorem Zw:dI Tryz.prog 49 0=some 0:=aQ
theorem Zx:dI Tryz.prog 49 1=some 1:=aQ
theorem Zy:dI Tryz.prog 49 2=some 2:=aQ
theorem Zz:dI Tryz.prog 49 3=some 3:=aQ
theorem ZA:dI Tryz.prog 49 4=some 4:=aQ
theorem ZB:dI Tryz.prog 49 5=some 5:=aQ
theorem KJ:dI Tryz.prog 49 6=some 6:=aQ
theorem PM:dI Tryz.prog 49 7=some 7:=aQ
theorem ZC:dI Tryz.prog 71 0=some 0:=aQ
theorem BE:dI Tryz.prog 71 1=some 1:=aQ
theorem Gw:dI Tryz.prog 71 2=some 2:=aQ
theorem PN:dI Tryz.prog 71 3=some 3:=aQ
theorem PO:dI Tryz.prog 71 4=some 4:=aQ
theorem KK:dI Tryz.prog 95 0=some 0:=aQ
theorem BF:dI Tryz.prog 95 1=some 1:=aQ
theorem DX:dI Tryz.prog 95 2=some 2:=aQ
theorem amP:dI Tryz.prog 95 3=some 3:=aQ
theorem PQ:dI Tryz.prog 95 4=some 4:=aQ
theorem Gx:dI Tryz.prog 95 5=some 5:=aQ
theorem Gy:dI Tryz.prog 95 6=some 6:=aQ
theorem amQ:dI Tryz.prog 101 0=some 0:=aQ
theorem ZD:dI Tryz.prog 101 1=some 1:=aQ
theorem ZE:dI Tryz.prog 104 0=some 0:=aQ
theorem ZF:dI Tryz.prog 104 1=some 1:=aQ
theorem amR:dI Tryz.prog 133 0=some 0:=aQ
theorem Gz:dI Tryz.prog 133 1=some 12:=aQ
theorem BG:dI Tryz.prog 133 2=some 13:=aQ
theorem qP:dI Tryz.prog 133 3=some 14:=aQ
theorem BH:dI Tryz.prog 133 4=some 15:=aQ
theorem zT:dI Tryz.prog 133 5=some 16:=aQ
theorem DY:dI Tryz.prog 133 6=some 17:=aQ
theorem yx:dI Tryz.prog 140 0=some 0:=aQ
theorem amS:dI Tryz.prog 140 1=some 1:=aQ
theorem ZG:dI Tryz.prog 140 2=some 3:=aQ
theorem ZH:dI Tryz.prog 140 3=some 6:=aQ
theorem amT:dI Tryz.prog 140 4=some 17:=aQ
theorem PR:dI Tryz.prog 140 5=some 25:=aQ
theorem yy:dI Tryz.prog 149 0=some 0:=aQ
theorem GA:dI Tryz.prog 149 1=some 1:=aQ
theorem rD:dI Tryz.prog 151 0=some 0:=aQ
theorem amU:dI Tryz.prog 194 0=some 0:=aQ
theorem ZI:dI Tryz.prog 194 1=some 1:=aQ
theorem PS:dI Tryz.prog 194 2=some 2:=aQ
theorem amV:dI Tryz.prog 198 0=some 0:=aQ
theorem amW:dI Tryz.prog 198 1=some 1:=aQ
theorem amX:dI Tryz.prog 198 2=some 2:=aQ
theorem amY:dI Tryz.prog 200 0=some 0:=aQ
theorem amZ:dI Tryz.prog 200 1=some 1:=aQ
theorem am0:dI Tryz.prog 247 0=some 0:=aQ
theorem PT:dI Tryz.prog 247 1=some 1:=aQ
theorem GB:dI Tryz.prog 247 2=some 2:=aQ
theorem am1:dI Tryz.prog 251 0=some 0:=aQ
theorem zU:dI Tryz.prog 251 1=some 1:=aQ
theorem qQ:dI Tryz.prog 288 0=some 0:=aQ
theorem PU:dI Tryz.prog 290 0=some 0:=aQ
theorem BI:dI Tryz.prog 290 1=some 1:=aQ
theorem am2:eu Tryz.prog 33=some (true,2,24,[ad,aE []]):=aQ
theorem am3(a b:bf)(w:World):(Op.equalIn 10000 35 (.agg #[U a.slot,U a.query,U a.shard,U a.seq,U a.f',aE a.text,U a.k,U a.batch,.bool a.first,U a.after.cq,aE a.after.word]) (.agg #[U b.slot,U b.query,U b.shard,U b.seq,U b.f',aE b.text,U b.k,U b.batch,.bool b.first,U b.after.cq,aE b.after.word])).run Tryz.prog w=.ok (decide (a=b)) w:=by
 obtain⟨a0,h9,a2,a3,a4,a5,DN,DO,GC,⟨a9,KL⟩⟩:=a;obtain⟨nc,aK,aR,bx,bK,cC,c',hb,hf,⟨jU,kz⟩⟩:=b;refine(alL (P:=Tryz.prog) (t:=35) (t2:=33) (k:=9) (o:=9) (ks:=[(0,.int .i64),(1,.int .i64),(2,.int .i64),(3,.int .i64),(4,.int .i64),(5,.str),(6,.int .i64),(7,.int .i64),(8,.bool)]) (ks2:=[(0,.int .i64),(1,.str)]) (q:=(a0==nc) && (h9==aK) && (a2==aR) && (a3==bx) && (a4==bK) && (a5==cC) && (DN==c') && (DO==hb) && (GC==hf)) (q2:=(a9==jU) && (KL==kz)) (x2:=#[U a9,aE KL]) (y2:=#[U jU,aE kz]) c0 c0 c0 c0 c0 c0 c0 am2 ?_ rfl rfl ?_ w).trans ?_
 . skip
   by_cases bH:a0=nc
   case neg=>(have g0:=beq_eq_false_iff_ne.2 bH);simp[mx,nm,aE,toList_mk,bH,g0]
   subst bH;by_cases h1:h9=aK
   case neg=>(have g1:=beq_eq_false_iff_ne.2 h1);simp[mx,nm,aE,toList_mk,h1,g1]
   subst h1;by_cases ag:a2=aR
   case neg=>(have g2:=beq_eq_false_iff_ne.2 ag);simp[mx,nm,aE,toList_mk,ag,g2]
   subst ag;by_cases aB:a3=bx
   case neg=>(have g3:=beq_eq_false_iff_ne.2 aB);simp[mx,nm,aE,toList_mk,aB,g3]
   subst aB;by_cases bE:a4=bK
   case neg=>(have g4:=beq_eq_false_iff_ne.2 bE);simp[mx,nm,aE,toList_mk,bE,g4]
   subst bE;by_cases c3:a5=cC
   case neg=>(have g5:=beq_eq_false_iff_ne.2 c3);simp[mx,nm,aE,toList_mk,c3,g5]
   subst c3;by_cases eX:DN=c'
   case neg=>(have g6:=beq_eq_false_iff_ne.2 eX);simp[mx,nm,aE,toList_mk,eX,g6]
   subst eX;by_cases kC:DO=hb
   case neg=>(have g7:=beq_eq_false_iff_ne.2 kC);simp[mx,nm,aE,toList_mk,kC,g7]
   subst kC;by_cases su:GC=hf
   case neg=>(have g8:=beq_eq_false_iff_ne.2 su);simp[mx,nm,aE,toList_mk,su,g8]
   subst su;simp[mx,nm,aE,toList_mk]
 . skip
   by_cases u4:a9=jU
   case neg=>(have g9:=beq_eq_false_iff_ne.2 u4);simp[mx,nm,aE,toList_mk,u4,g9]
   subst u4;by_cases ua:KL=kz
   case neg=>(have g10:=beq_eq_false_iff_ne.2 ua);simp[mx,nm,aE,toList_mk,ua,g10]
   subst ua;simp[mx,nm,aE,toList_mk]
 . congr 1
   by_cases bH:a0=nc
   case neg=>(have g0:=beq_eq_false_iff_ne.2 bH);simp[bH,g0]
   subst bH;by_cases h1:h9=aK
   case neg=>(have g1:=beq_eq_false_iff_ne.2 h1);simp[h1,g1]
   subst h1;by_cases ag:a2=aR
   case neg=>(have g2:=beq_eq_false_iff_ne.2 ag);simp[ag,g2]
   subst ag;by_cases aB:a3=bx
   case neg=>(have g3:=beq_eq_false_iff_ne.2 aB);simp[aB,g3]
   subst aB;by_cases bE:a4=bK
   case neg=>(have g4:=beq_eq_false_iff_ne.2 bE);simp[bE,g4]
   subst bE;by_cases c3:a5=cC
   case neg=>(have g5:=beq_eq_false_iff_ne.2 c3);simp[c3,g5]
   subst c3;by_cases eX:DN=c'
   case neg=>(have g6:=beq_eq_false_iff_ne.2 eX);simp[eX,g6]
   subst eX;by_cases kC:DO=hb
   case neg=>(have g7:=beq_eq_false_iff_ne.2 kC);simp[kC,g7]
   subst kC;by_cases su:GC=hf
   case neg=>(have g8:=beq_eq_false_iff_ne.2 su);simp[su,g8]
   subst su;by_cases u4:a9=jU
   case neg=>(have g9:=beq_eq_false_iff_ne.2 u4);simp[u4,g9]
   subst u4;by_cases ua:KL=kz
   case neg=>(have g10:=beq_eq_false_iff_ne.2 ua);simp[ua,g10]
   subst ua;simp
theorem am4(a b:Gp)(w:World):(Op.equalIn 10000 38 (.agg #[U a.a,U a.b,U a.c]) (.agg #[U b.a,U b.b,U b.c])).run Tryz.prog w=.ok (decide (a=b)) w:=
 Cv (ks:=[(0,.int .i64),(1,.int .i64),(2,.int .i64)]) c0 c0 c0 (by
  obtain⟨a0,h9,a2⟩:=a
  obtain⟨nc,aK,aR⟩:=b
  (by_cases bH:a0=nc)<;>(first|(have g0:=beq_eq_false_iff_ne.2 bH)|(have g0:=beq_iff_eq.2 bH))<;>(by_cases h1:h9=aK)<;>(first|(have g1:=beq_eq_false_iff_ne.2 h1)|(have g1:=beq_iff_eq.2 h1))<;>(by_cases ag:a2=aR)<;>(first|(have g2:=beq_eq_false_iff_ne.2 ag)|(have g2:=beq_iff_eq.2 ag))<;>simp[mx,nm,aE,toList_mk,bH,h1,ag,g0,g1,g2]) w
theorem am5(a b:w8)(w:World):(Op.equalIn 10000 46 (.agg #[U a.a,U a.b]) (.agg #[U b.a,U b.b])).run Tryz.prog w=.ok (decide (a=b)) w:=
 Cv (ks:=[(0,.int .i64),(1,.int .i64)]) c0 c0 c0 (by
  obtain⟨a0,h9⟩:=a
  obtain⟨nc,aK⟩:=b
  (by_cases bH:a0=nc)<;>(first|(have g0:=beq_eq_false_iff_ne.2 bH)|(have g0:=beq_iff_eq.2 bH))<;>(by_cases h1:h9=aK)<;>(first|(have g1:=beq_eq_false_iff_ne.2 h1)|(have g1:=beq_iff_eq.2 h1))<;>simp[mx,nm,aE,toList_mk,bH,h1,g0,g1]) w
theorem am6(a b:w8)(w:World):(Op.equalIn 10000 104 (.agg #[U a.a,U a.b]) (.agg #[U b.a,U b.b])).run Tryz.prog w=.ok (decide (a=b)) w:=
 Cv (ks:=[(0,.int .i64),(1,.int .i64)]) c0 c0 c0 (by
  obtain⟨a0,h9⟩:=a
  obtain⟨nc,aK⟩:=b
  (by_cases bH:a0=nc)<;>(first|(have g0:=beq_eq_false_iff_ne.2 bH)|(have g0:=beq_iff_eq.2 bH))<;>(by_cases h1:h9=aK)<;>(first|(have g1:=beq_eq_false_iff_ne.2 h1)|(have g1:=beq_iff_eq.2 h1))<;>simp[mx,nm,aE,toList_mk,bH,h1,g0,g1]) w
theorem p1:vn (Tryz.prog.underlying 35)=true:=aQ
theorem qR:vn (Tryz.prog.underlying 38)=true:=aQ
theorem qS:vn (Tryz.prog.underlying 46)=true:=aQ
theorem xb:vn (Tryz.prog.underlying 49)=true:=aQ
theorem qs:vn (Tryz.prog.underlying 104)=true:=aQ
theorem PV:b7 Tryz.prog 11=true:=aQ
theorem ZJ:b7 Tryz.prog 12=true:=aQ
theorem am7:b7 Tryz.prog 13=true:=aQ
theorem DZ:b7 Tryz.prog 14=true:=aQ
theorem am8:b7 Tryz.prog 15=true:=aQ
theorem PW:b7 Tryz.prog 16=true:=aQ
theorem am9:b7 Tryz.prog 17=true:=aQ
theorem ZK:b7 Tryz.prog 18=true:=aQ
theorem ZL:b7 Tryz.prog 19=true:=aQ
theorem am_:b7 Tryz.prog 20=true:=aQ
theorem GD:b7 Tryz.prog 21=true:=aQ
theorem ZM:b7 Tryz.prog 22=true:=aQ
theorem am':b7 Tryz.prog 24=true:=aQ
theorem KM:b7 Tryz.prog 26=true:=aQ
theorem ana:b7 Tryz.prog 27=true:=aQ
theorem ZN:b7 Tryz.prog 28=true:=aQ
theorem ZO:b7 Tryz.prog 29=true:=aQ
theorem PX:b7 Tryz.prog 30=true:=aQ
theorem zV:b7 Tryz.prog 31=true:=aQ
theorem xc:b7 Tryz.prog 32=true:=aQ
theorem anb:b7 Tryz.prog 33=true:=aQ
theorem anc:b7 Tryz.prog 34=true:=aQ
theorem KN:b7 Tryz.prog 35=true:=aQ
theorem ane:b7 Tryz.prog 36=true:=aQ
theorem anf:b7 Tryz.prog 40=true:=aQ
theorem ang:b7 Tryz.prog 41=true:=aQ
theorem anh:b7 Tryz.prog 43=true:=aQ
theorem ani:b7 Tryz.prog 45=true:=aQ
theorem ZP:b7 Tryz.prog 46=true:=aQ
theorem anj:b7 Tryz.prog 47=true:=aQ
theorem ank:b7 Tryz.prog 48=true:=aQ
theorem anl:b7 Tryz.prog 49=true:=aQ
theorem ZQ:b7 Tryz.prog 50=true:=aQ
theorem anm:b7 Tryz.prog 51=true:=aQ
theorem ann:b7 Tryz.prog 52=true:=aQ
theorem ZR:b7 Tryz.prog 53=true:=aQ
theorem ano:b7 Tryz.prog 62=true:=aQ
theorem anp:b7 Tryz.prog 63=true:=aQ
theorem anq:b7 Tryz.prog 64=true:=aQ
theorem ZS:b7 Tryz.prog 65=true:=aQ
theorem anr:b7 Tryz.prog 66=true:=aQ
theorem ans:b7 Tryz.prog 67=true:=aQ
theorem ant:b7 Tryz.prog 68=true:=aQ
theorem KO:b7 Tryz.prog 69=true:=aQ
theorem KP:b7 Tryz.prog 70=true:=aQ
theorem anu:b7 Tryz.prog 71=true:=aQ
theorem anv:b7 Tryz.prog 72=true:=aQ
theorem anw:b7 Tryz.prog 73=true:=aQ
theorem anx:b7 Tryz.prog 74=true:=aQ
theorem anz:b7 Tryz.prog 75=true:=aQ
theorem ZT:b7 Tryz.prog 76=true:=aQ
theorem anA:b7 Tryz.prog 83=true:=aQ
theorem KQ:b7 Tryz.prog 88=true:=aQ
theorem anB:b7 Tryz.prog 89=true:=aQ
theorem anC:b7 Tryz.prog 92=true:=aQ
theorem anD:b7 Tryz.prog 93=true:=aQ
theorem anE:b7 Tryz.prog 94=true:=aQ
theorem anF:b7 Tryz.prog 95=true:=aQ
theorem anG:b7 Tryz.prog 109=true:=aQ
theorem ZU:b7 Tryz.prog 110=true:=aQ
theorem ZV:b7 Tryz.prog 111=true:=aQ
theorem anH:b7 Tryz.prog 112=true:=aQ
theorem anI:b7 Tryz.prog 113=true:=aQ
theorem anJ:b7 Tryz.prog 114=true:=aQ
theorem anK:b7 Tryz.prog 115=true:=aQ
theorem anL:b7 Tryz.prog 116=true:=aQ
theorem anM:b7 Tryz.prog 117=true:=aQ
theorem anN:b7 Tryz.prog 118=true:=aQ
theorem anO:b7 Tryz.prog 119=true:=aQ
theorem anP:b7 Tryz.prog 120=true:=aQ
theorem anQ:b7 Tryz.prog 121=true:=aQ
theorem PY:b7 Tryz.prog 122=true:=aQ
theorem anR:b7 Tryz.prog 123=true:=aQ
theorem KR:b7 Tryz.prog 131=true:=aQ
theorem anS:b7 Tryz.prog 132=true:=aQ
theorem anT:b7 Tryz.prog 151=true:=aQ
theorem ZW:b7 Tryz.prog 152=true:=aQ
theorem anU:b7 Tryz.prog 153=true:=aQ
theorem xd:b7 Tryz.prog 154=true:=aQ
theorem anV:b7 Tryz.prog 155=true:=aQ
theorem ZX:b7 Tryz.prog 156=true:=aQ
theorem anW:b7 Tryz.prog 157=true:=aQ
theorem GF:b7 Tryz.prog 158=true:=aQ
theorem PZ:b7 Tryz.prog 159=true:=aQ
theorem ZY:b7 Tryz.prog 160=true:=aQ
theorem anX:b7 Tryz.prog 161=true:=aQ
theorem ZZ:b7 Tryz.prog 162=true:=aQ
theorem anY:b7 Tryz.prog 163=true:=aQ
theorem GG:b7 Tryz.prog 164=true:=aQ
theorem anZ:b7 Tryz.prog 165=true:=aQ
theorem D0:b7 Tryz.prog 168=true:=aQ
theorem Z0:b7 Tryz.prog 169=true:=aQ
theorem P0:b7 Tryz.prog 184=true:=aQ
theorem an0:b7 Tryz.prog 185=true:=aQ
theorem an1:b7 Tryz.prog 186=true:=aQ
theorem Z1:b7 Tryz.prog 187=true:=aQ
theorem Z2:b7 Tryz.prog 188=true:=aQ
theorem an2:b7 Tryz.prog 189=true:=aQ
theorem an3:b7 Tryz.prog 190=true:=aQ
theorem GH:b7 Tryz.prog 193=true:=aQ
theorem P1:b7 Tryz.prog 200=true:=aQ
theorem xe:b7 Tryz.prog 201=true:=aQ
theorem an4:b7 Tryz.prog 202=true:=aQ
theorem an5:b7 Tryz.prog 203=true:=aQ
theorem an6:b7 Tryz.prog 204=true:=aQ
theorem an7:b7 Tryz.prog 206=true:=aQ
theorem Z3:b7 Tryz.prog 207=true:=aQ
theorem an8:b7 Tryz.prog 211=true:=aQ
theorem Z4:b7 Tryz.prog 212=true:=aQ
theorem an9:b7 Tryz.prog 213=true:=aQ
theorem P2:b7 Tryz.prog 215=true:=aQ
theorem Z5:b7 Tryz.prog 220=true:=aQ
theorem an_:b7 Tryz.prog 223=true:=aQ
end Go.Proofs
namespace Go.Proofs
open Tryz
open Go.aF Go.ak
theorem Z6{w0:World}{F:Nat->Prop}{c9 df:Nat}{wid GI:Int}{GJ:Bool}{o1 X Y:Value}{ks:List Int}{life:Int}{K:List cZ}(bg:(bl (R:=az) [ay c9 [U wid,U GI,.bool GJ,o1,ptr df 0,X,Y] 95,aS aF.encI 3 1 o1 ks,hA 164 123 5 df life K]).p F w0)(br:∀b,F b->b<w0.heap.size)(XS:0<=life/\life<=1000000)(eC:oJ K)(lf:ks.Nodup)(n_:∀k∈ks,bY k)(mU:ks.length<=1000):
 bG 46 #[ptr c9 0] w0 (ao λaC ai=>aC=.tuple #[]/\Mod F w0 ai/\∃bw,(jn (R:=az) 3 95 164 123 5 176 172 c9 wid ks (⟨0,true,life+1,K,K,[]⟩)).p bw ai/\∀b,bw b->b<ai.heap.size/\(F b\/w0.heap.size<=b)):=by
 have dU:=au.ht (R:=az) bg (λb ab=>⟨br b ab,id⟩) (λ_ h=>h.elim);have bt:=(dU.u 0 []).cm;refine bQ func46 rfl ntmps46 rfl (.go 4 rfl (have f1:=bt.k 0;.a7 PQ PL f1 ?_));obtain⟨hW,dx,ds,dc⟩:=bt.ez 2;refine .ac (.aH anC rfl (ajL (w0:=w0) aa dx (λb ab=>(ds b ab).2)) ?_);rintro _ ai ⟨rfl,av,fr,fg,dZ⟩;have a1:=(dc _ _ _ av fg dZ).cm;clear dc fg;refine .go 6 rfl (.ac (.aH anD rfl (akW (w0:=ai)) ?_));rintro _ aZ ⟨dS,bw,rfl,aA,gr,gj⟩;have a6:au az F w0 aZ [ay c9 [U wid,U GI,.bool GJ,o1,ptr df 0,X,Y] 95,aS aF.encI 3 1 o1 ks,hA 164 123 5 df (life+1) K,jQ 176 172 dS []]:=a1.new aA gr (λb ab=>⟨(gj b ab).2,(gj b ab).1⟩);refine .go 1 rfl (.z (.fieldAddr DX rfl) (have f2:=a6.k 0;.ac (.st fj f2 λbp aO aW=>?_)));have bc:=(a6.c_ 0 aO aW.xZ).bT;refine .go 1 rfl (.z (.fieldAddr BF rfl) (have f3:=bc.k 0;.ac (.st aI f3 λbZ aY bR=>?_)));have ba:=(bc.c_ 0 aY bR.xZ).bT;refine .go 1 rfl (.z (.fieldAddr Gy rfl) (have f4:=ba.k 0;.ac (.st vw f4 λcM bu cT=>?_)));have bo:=(ba.c_ 0 bu cT.xZ).bT;refine .go 4 rfl (.ac (.WU (key:=fB) (val:=l3) λc7 aK b' aG hc de=>have bB:=(bo.WV b' aG de).cU;have bI:au az F w0 c7 [ay c9 [U wid,ad,.bool true,o1,ptr df 0,X,ptr dS 0] 95,aS aF.encI 3 1 o1 ks,hA 164 123 5 df (life+1) K,jQ 176 172 dS [],jk fB l3 aK [],lM [] []]:=bB.new (Mod.refl _ _) (F:=λ_=>False) (A:=lM [] []) (c4.nil) (λ_ h=>h.elim);.go 1 rfl (.z (.fieldAddr Gx rfl) (have f5:=bI.k 0;.ac (.st Gu f5 λdA cG e6=>?_)))));have bq:=(bI.c_ 0 cG e6.xZ).n6;refine .go 5 rfl (have f6:=bq.k 0;.a7 amP pM f6 ?_);obtain⟨g1,f7,cA,bF⟩:=bq.bW 1;refine .z (.ct underlying57 (f7.b9) rfl) (have b3:=(bq.dw [1,4,0,5,2,3]).n6;.ae 3 rfl (dV (I:=λm E W=>∃(i:Nat) (vs:List Value),E=[(0,ptr c9 0),(30,o1),(31,U (ks.length:Int)),(32,U (i:Int))]/\m=ks.length-i/\au az F w0 W [aS aF.encI 3 1 o1 ks,jk fB l3 aK (k9 (ks.take i) vs K),ay c9 [U wid,ad,.bool true,o1,ptr df 0,.map (some aK),ptr dS 0] 95,lM vs ((ks.take i).map (gm K)),hA 164 123 5 df (life+1) K,jQ 176 172 dS []]/\(vs.length=i)/\(i<=ks.length)) ?_ ?_))
 . refine⟨_,_,⟨(0:Nat),([]:List Value),rfl,rfl,b3,dz,aa⟩,bj⟩
 . rintro _ _ eK ⟨i,vs,rfl,rfl,bM,BJ,ng⟩ b4;refine .go 2 rfl (.bh (.lt rfl rfl) (λaJ=>?_) λaJ=>?_)
   . refine .ae 2 rfl ?_;obtain⟨g2,f8,dp,cB⟩:=bM.bW 0;obtain⟨aw,bx,e5,a_,bU,fa,cF⟩:=aq.fv f8.b9 underlying57 aI aF.fz i aV;refine .go 6 rfl (.z (.indexAddr rfl rfl bU) (.z (.dO aI cF) (have OF:=n_ _ (List.mem_of_getElem? a_);.go 6 rfl (have f9:=bM.k 2;.a7 PQ PL f9 ?_))));obtain⟨pW,iB,hg,hn⟩:=bM.ez 4;refine .go 1 rfl (.ac (.aH anE rfl (ajE (w0:=eK) (aw) D1 iB (λb ab=>(hg b ab).2) eC) ?_));rintro _ ff ⟨v1,rfl,⟨g3,cf,b_⟩,dg⟩;have ck:=(bM.fD dg cf b_).n7;clear b_;obtain⟨g4,f10,gI,dG⟩:=ck.bW 6;refine .go 9 rfl (.ac (.aH anF rfl (akN (w0:=ff) (b:=(iP K aw)) (f10.b9.cw (Nat.zero_le _) f10.lt) (YJ eC _)) ?_));rintro _ fm ⟨FP,_,rfl,⟨OC,yg,pN,Dq,Dr⟩,rfl,dm⟩;obtain⟨D2,rfl,asU⟩:=pN.Pw;have dh:au az F w0 fm [aS aF.encI 3 1 o1 ks,jk fB l3 aK (k9 (ks.take i) vs K),ay c9 [U wid,ad,.bool true,o1,ptr df 0,.map (some aK),ptr dS 0] 95,lM vs ((ks.take i).map (gm K)),hA 164 123 5 df (life+1) K,jQ 176 172 dS [],aS en 5 1 v1 (iP K aw),wy (.pointer D2) (gm K aw)]:=ck.ME dm pN Dq Dr;refine .go 9 rfl (have f11:=dh.k 2;.a7 Gx Gu f11 (.go 3 rfl (.z (.build (vs:=#[(0,(.pointer D2)),(1,(U (kM K aw):Value))]) (v:=.agg #[(.pointer D2),U (kM K aw)]) rfl (λ_=>by kernel_rfl)) (have f12:=dh.mp (i:=1) rfl;.ac (.aif (aw:Int) (((.pointer D2),kM K aw):Value×Int) (aic underlying3) underlying92 rfl rfl rfl f12 λhv dP kg gE=>?_)))));rw[alM BJ a_ lf] at gE;have dH:=(dh.C3 (i:=1) rfl dP gE).n8;have eB:=(dH.aR [0,1,2,4,5,6] 3 7).n7;have fc:=(eB.ty (lM (vs++[(.pointer D2)]) ((ks.take (i+1)).map (gm K))) 6 rfl (λec bP=>(by rw[List.take_add_one,a_,List.map_append];exact al0 bP))).n7;exact .go 3 rfl (.z (.cb ((i+1:Nat):Int) rfl rfl aa) (have eF:=(fc.dw [0,1,2,6,3,4]).n6;.ae 2 rfl ((b4 _ _ _ ⟨(i+1:Nat),(vs++[(.pointer D2)]:List Value),rfl,rfl,eF,ap,e'⟩ aa).sub bj)))
   exact .ae 4 rfl (kN func46 rfl (have wT:ks.take i=ks:=List.take_of_length_le aa;have bS:=(bM.ty (lM vs (ks.map (gm K))) 3 rfl (λec bP=>(by rw[wT] at bP;exact bP))).n6;have ck:=(bS.ty (jk fB l3 aK (k9 ks vs K)) 1 rfl (λec bP=>(by rw[wT] at bP;exact bP))).n6;have cQ:=(ck.c' [] 2 0 4 1 3 5).cj;have dh:=(cQ.l5 (s:=⟨0,true,life+1,K,K,[]⟩) 0 rfl).cj;dh.rt 0 rfl rfl))
theorem xf{w0:World}{c9:Nat}{fp c1 hG DP w9 w_:Value}{up:Bool}(ab:du w0 c9 [fp,c1,.bool up,hG,DP,w9,w_] 95):
 bG 32 #[ptr c9 0] w0 (ao λaC ai=>aC=.bool up/\Ext w0 ai):=by
 have cL:=au.fS w0;exact bQ func32 rfl ntmps32 rfl (.go 7 rfl (.z (.EK underlying27 rfl rfl) (.go 3 rfl (.z (.fieldAddr DX rfl) (have bU:=ab.row.sub 2 1 dj;.z (.dO fj bU) (.ae 3 rfl (nJ func32 ⟨rfl,cL.mod⟩)))))))
theorem KS{w0:World}{c9 df:Nat}{fp c1 c2 hG w9 w_:Value}(ab:du w0 c9 [fp,c1,c2,hG,ptr df 0,w9,w_] 95):
 bG 26 #[ptr c9 0] w0 (ao λaC ai=>aC=ptr df 0/\Ext w0 ai):=by
 have cL:=au.fS w0;exact bQ func26 rfl ntmps26 rfl (.go 8 rfl (.z (.oe underlying27 rfl rfl) (.go 7 rfl (.z (.fieldAddr PQ rfl) (have bU:=ab.row.sub 4 1 dj;.z (.dO PL bU) (.ae 2 rfl (nJ func26 ⟨rfl,cL.mod⟩)))))))
theorem GK{w0:World}{F:Nat->Prop}{c9 df:Nat}{fp c1 c2 hG w9 w_:Value}{life:Int}{K:List cZ}(ab:du w0 c9 [fp,c1,c2,hG,ptr df 0,w9,w_] 95)(hd:(hA (R:=az) 164 123 5 df life K).p F w0):
 bG 21 #[ptr c9 0] w0 (ao λaC ai=>aC=U life/\Ext w0 ai):=by
 have cL:=au.fS w0;refine bQ func21 rfl ntmps21 rfl (.go 7 rfl (.ac (.aH KM rfl (KS (w0:=w0) (ab.ext cL.mod)) ?_)));rintro _ ai ⟨rfl,av⟩;have bt:=cL.ext av;refine .ac (.aH ann rfl (ajG (w0:=ai) ((hA (R:=az) 164 123 5 df life K).keep hd bt.mod (λ_ _ h=>h) (λ_ h=>h.elim))) ?_);rintro _ aZ ⟨rfl,aA⟩;have a1:=bt.ext aA;exact .ae 2 rfl (nJ func21 ⟨rfl,a1.mod⟩)
theorem an'{w0:World}{c9:Nat}{fp hG DP w9 w_:Value}{ep:Int}{up:Bool}(ab:du w0 c9 [fp,U ep,.bool up,hG,DP,w9,w_] 95):
 bG 20 #[ptr c9 0] w0 (ao λaC ai=>aC=U (if up=true then ep else 0)/\Ext w0 ai):=by
 have cL:=au.fS w0;refine bQ func20 rfl ntmps20 rfl (.go 8 rfl (.ac (.aH xc rfl (xf (w0:=w0) (ab.ext cL.mod)) ?_)));rintro _ ai ⟨rfl,av⟩;have bt:=cL.ext av;cases up
 case true =>
  exact .z (.not rfl) (.go 7 rfl (.z (.fieldAddr BF rfl) (have f1:=ab.row.keep bt.mod (λh=>h);have bU:=f1.sub 1 1 dj;.z (.dO aI bU) (.ae 2 rfl (nJ func20 ⟨rfl,bt.mod⟩)))))
 exact .z (.not rfl) (.ae 6 rfl (nJ func20 ⟨rfl,bt.mod⟩))
theorem Z7{w0:World}{F:Nat->Prop}{c9:Nat}{wid:Int}{ks:List Int}{ep life:Int}{up:Bool}{K B:List cZ}{q:List bf}(bg:(jn (R:=az) 3 95 164 123 5 176 172 c9 wid ks (⟨ep,up,life,K,B,q⟩)).p F w0)(br:∀b,F b->b<w0.heap.size):
 bG 18 #[ptr c9 0] w0 (ao λaC ai=>aC=U (if up=true then 0 else 10)/\Mod F w0 ai/\∃bw,(jn (R:=az) 3 95 164 123 5 176 172 c9 wid ks (⟨ep,false,life,K,B,q⟩)).p bw ai/\∀b,bw b->b<ai.heap.size/\(F b\/w0.heap.size<=b)):=by
 have dU:=au.ht (R:=az) bg (λb ab=>⟨br b ab,id⟩) (λ_ h=>h.elim);obtain⟨⟨jH,dF,gx,jy,dS⟩,bt⟩:=dU.fK 0;change au az F w0 w0 [bl [ay c9 [U wid,U ep,.bool up,jH,ptr dF 0,.map (some gx),ptr dS 0] 95,aS aF.encI 3 1 jH ks,hA 164 123 5 dF life K,jk fB l3 gx (k9 ks jy B),lM jy (ks.map (gm B)),jQ 176 172 dS q]] at bt;have a1:=(bt.u 0 []).n6;refine bQ func18 rfl ntmps18 rfl (.go 9 rfl (.z (.oe underlying27 rfl rfl) (.go 7 rfl (have f1:=a1.k 0;.a7 DX fj f1 ?_))));cases up
 case true =>
  refine .z (.not rfl) (.go 9 rfl (.z (.fieldAddr DX rfl) (.ac (.st fj f1 λai av aW=>?_))));have bb:=(a1.c_ 0 av aW.xZ).n6;exact .ae 5 rfl (aM func18 rfl rfl (have a6:=(bb.c' [] 0 1 2 3 4 5).cj;have bc:=(a6.l5 (s:=⟨ep,false,life,K,B,q⟩) 0 rfl).cj;bc.rt 0 rfl rfl))
 exact .z (.not rfl) (.ae 7 rfl (aM func18 rfl rfl (have bb:=(a1.c' [] 0 1 2 3 4 5).cj;have a6:=(bb.l5 (s:=⟨ep,false,life,K,B,q⟩) 0 rfl).cj;a6.rt 0 rfl rfl)))
theorem Z8{w0:World}{F:Nat->Prop}{c9:Nat}{wid:Int}{ks:List Int}{ep life:Int}{up:Bool}{K B:List cZ}{q:List bf}{n:Nat}(bg:(jn (R:=az) 3 95 164 123 5 176 172 c9 wid ks (⟨ep,up,life,K,B,q⟩)).p F w0)(br:∀b,F b->b<w0.heap.size)(lf:w7 ks)(bX:hX ks n (⟨ep,up,life,K,B,q⟩:ed))(aN:n<=1000000):
 bG 19 #[ptr c9 0] w0 (ao λaC ai=>aC=U (if up=true then 5 else 0)/\Mod F w0 ai/\∃bw,(jn (R:=az) 3 95 164 123 5 176 172 c9 wid ks (if up=true then⟨ep,up,life,K,B,q⟩ else rA ⟨ep,up,life,K,B,q⟩)).p bw ai/\∀b,bw b->b<ai.heap.size/\(F b\/w0.heap.size<=b)):=by
 have kX:=bX.nD;have ik:=bX.life;have la:=bX.ep;dsimp only at kX ik la;have dU:=au.ht (R:=az) bg (λb ab=>⟨br b ab,id⟩) (λ_ h=>h.elim);obtain⟨⟨jH,dF,gx,jy,dS⟩,bt⟩:=dU.fK 0;change au az F w0 w0 [bl [ay c9 [U wid,U ep,.bool up,jH,ptr dF 0,.map (some gx),ptr dS 0] 95,aS aF.encI 3 1 jH ks,hA 164 123 5 dF life K,jk fB l3 gx (k9 ks jy B),lM jy (ks.map (gm B)),jQ 176 172 dS q]] at bt;have a1:=(bt.u 0 []).n6;refine bQ func19 rfl ntmps19 rfl (.go 9 rfl (.z (.oe underlying27 rfl rfl) (.go 7 rfl (have f1:=a1.k 0;.a7 DX fj f1 (.ae 2 rfl ?_)))));cases up
 case true =>
  exact .ae 5 rfl (aM func19 rfl rfl (have bb:=(a1.c' [] 0 1 2 3 4 5).cj;have a6:=(bb.l5 (s:=⟨ep,true,life,K,B,q⟩) 0 rfl).cj;a6.rt 0 rfl rfl))
 have bb:=(a1.bx [3,4,5] 0 1 2).bT;obtain⟨hW,dx,ds,dc⟩:=bb.ez 3;refine .go 6 rfl (.ac (.aH ZP rfl (Z6 (w0:=w0) dx (λb ab=>(ds b ab).2) aa bX.K lf.vq lf.i64 lf.len) ?_));rintro _ ai ⟨rfl,av,fr,fg,dZ⟩;have a6:=(dc _ _ _ av fg dZ).bT;clear dx dc fg dZ;exact .ae 5 rfl (aM func19 rfl rfl (a6.rt 3 rfl rfl))
theorem Z9{w0:World}{F:Nat->Prop}{c9:Nat}{wid:Int}{ks:List Int}{ep life:Int}{up:Bool}{K B:List cZ}{q:List bf}{n:Nat}(k:Int)(bg:(jn (R:=az) 3 95 164 123 5 176 172 c9 wid ks (⟨ep,up,life,K,B,q⟩)).p F w0)(br:∀b,F b->b<w0.heap.size)(lf:w7 ks)(bX:hX ks n (⟨ep,up,life,K,B,q⟩:ed))(aN:n<=1000000)(hk:bY k):
 bG 28 #[ptr c9 0,U k] w0 (ao λaC ai=>∃v,aC=.tuple #[v,U (jG ks ⟨ep,up,life,K,B,q⟩ k).2]/\(∃g,Acc cz 9 1 ai g v (jG ks ⟨ep,up,life,K,B,q⟩ k).1/\(g=0\/w0.heap.size<g))/\Ext w0 ai):=by
 have cL:=au.fS w0;obtain⟨o1,df,iQ,vs,dd,ab,⟨Fd,hd,sk⟩,rn,⟨aoa,uF,nZ⟩,aob,dB,nB⟩:=yr bg;have BJ:vs.length=ks.length:=(Py uF).trans (List.length_map ..);dsimp only at ab hd rn uF dB;refine bQ func28 rfl ntmps28 rfl (.go 10 rfl (.z (.oe underlying27 rfl rfl) ?_));refine .go 7 rfl (.z (.fieldAddr DX rfl) (have bU:=ab.row.sub 2 1 dj;.z (.dO fj bU) ?_));cases up
 case true =>
  refine .z (.not rfl) (.go 9 rfl (.z (.fieldAddr Gx rfl) ?_));have cI:=ab.row.sub 5 1 dj;refine .z (.dO Gu cI) (.go 1 rfl ?_);rcases Pl (B:=B) BJ k with ⟨KT,pk⟩|⟨j,mO,BK,BL,pk⟩
  . skip
    refine .z (.T0 (key:=fB) (val:=l3) (u_ underlying3) underlying92 zeroValue101 rfl rfl (λ_ e=>e▸(rn.keep cL.mod (λh=>h)).o) pk) ?_;refine .go 3 rfl (.ac (.alloc KG λai aK av aG cu aW=>have a1:=(cL.cW av aG aW).cj;have f1:=a1.k 0;.ac (.store KG rfl rfl rfl rfl rfl f1 dj λaZ aA ef bR=>?_)));have bb:=(a1.c_ 0 aA bR.c2).cj;refine .go 7 rfl (.z (.not rfl) (.ae 8 rfl ?_));exact cO func28 rfl rfl rfl (have qT:jG ks ⟨ep,_,life,K,B,q⟩ k=([],4):=Po KT;ao.mk ⟨_,(by rw[qT]),⟨0,Acc.cast Acc.nil (by rw[qT]),.inl rfl⟩,bb.mod⟩)
  . skip
    have BM:(ks.map (gm B))[j]?=some (gm B k):=(by rw[List.getElem?_map,BK];rfl);obtain⟨_,_,GL,_⟩:=Y0 uF BL BM;obtain⟨Z_,rfl,_⟩:=GL.Pw;have sl:=List.mem_of_getElem? BK;refine .z (.TZ (key:=fB) (val:=l3) (u_ underlying3) underlying92 zeroValue101 rfl rfl (λ_ e=>e▸(rn.keep cL.mod (λh=>h)).o) pk) ?_;refine .go 3 rfl (.ac (.alloc KG λai aK av aG cu aW=>have a1:=(cL.cW av aG aW).cj;have f1:=a1.k 0;.ac (.st KG f1 λaZ aA bR=>?_)));have bb:=(a1.c_ 0 aA bR.c2).cj;refine .go 7 rfl (.z (.not rfl) (.go 5 rfl ?_));have f2:=bb.k 0;refine .a7 ZD Zs f2 (.mg (.ne rfl rfl) (λaJ=>?_) λaJ=>?_)
    . refine .ae 4 rfl (eR (λi=>false) 4 (λan=>Mod (ca 0) aZ an) mixed λbp aO=>have a6:=bb.ext aO;have jD:Mod (ca 0) aZ bp:=Mod.ga aO;⟨jD,?_⟩);refine .z rfl (.fieldAddr ZD rfl) (.z rfl (.cd Zs rfl (λ_ al=>(f2.cell 1 _ rfl).bD al (Nat.succ_ne_zero _))) (.gd 2 rfl ?_));exact .nil (cO func28 rfl rfl rfl (have qT:jG ks ⟨ep,_,life,K,B,q⟩ k=([],(kM B k)):=Gl sl bd;ao.mk ⟨_,(by rw[qT]),⟨0,Acc.cast Acc.nil (by rw[qT]),.inl rfl⟩,a6.mod⟩))
    refine .go 7 rfl (.a7 amQ rj f2 ?_);obtain⟨_,_,pN,P3⟩:=Y0 ((lM (R:=az) vs (ks.map (gm B))).keep uF bb.mod (λ_ _ h=>h) (λ_ h=>h.elim)) BL BM;refine .ac (.aH ano rfl (akU (w0:=aZ) pN P3 (YO (Kx.2 bd)) (Nat.le_trans (bX.c9 k) b5)) ?_);rintro v1 bp ⟨⟨ig,cf,b_⟩,aO⟩;have bc:=(bb.fD aO cf b_).bO;clear b_;refine .ae 3 rfl (cO func28 rfl rfl rfl ?_);have qT:jG ks ⟨ep,_,life,K,B,q⟩ k=(hq B k,0):=DL sl bd;obtain⟨ei,vy,vz⟩:=bc.tl (i:=1) rfl;exact ao.mk ⟨_,(by rw[qT]),⟨ei,Acc.cast vy (by rw[qT]),vz⟩,bc.mod⟩
 refine .z (.not rfl) (.ae 8 rfl (cO func28 rfl rfl rfl ?_));have qT:jG ks ⟨ep,_,life,K,B,q⟩ k=([],10):=YP;exact ao.mk ⟨_,(by rw[qT]),⟨0,Acc.cast Acc.nil (by rw[qT]),.inl rfl⟩,cL.mod⟩
theorem aoc{w0:World}{F:Nat->Prop}{c9:Nat}{wid:Int}{ks:List Int}{ep life:Int}{up:Bool}{K B:List cZ}{q:List bf}{n:Nat}(bg:(jn (R:=az) 3 95 164 123 5 176 172 c9 wid ks (⟨ep,up,life,K,B,q⟩)).p F w0)(br:∀b,F b->b<w0.heap.size)(lf:w7 ks)(bX:hX ks n (⟨ep,up,life,K,B,q⟩:ed))(aN:n<=100000):
 bG 15 #[ptr c9 0] w0 (ao λaC ai=>(∃g,Acc eO 35 11 ai g aC (Gk ⟨ep,up,life,K,B,q⟩)/\(g=0\/w0.heap.size<g))/\Ext w0 ai):=by
 have cL:=au.fS w0;obtain⟨o1,df,iQ,vs,dd,ab,⟨Fd,hd,sk⟩,rn,⟨aoa,uF,nZ⟩,aob,dB,nB⟩:=yr bg;dsimp only at ab hd rn uF dB;refine bQ func15 rfl ntmps15 rfl (.go 8 rfl (.ac (.aH xc rfl (xf (w0:=w0) (ab.ext cL.mod)) ?_)));rintro _ ai ⟨rfl,av⟩;have bt:=cL.ext av;cases up
 case true =>
  refine .z (.not rfl) (.go 7 rfl (.z (.fieldAddr Gy rfl) (have f1:=ab.row.keep bt.mod (λh=>h);have bU:=f1.sub 6 1 dj;.z (.dO vw bU) (.ac (.aH anl rfl (ak0 (w0:=ai) ((jQ (R:=az) 176 172 dd q).keep dB bt.mod (λ_ _ h=>h) (λ_ h=>h.elim)) (λb ab=>Nat.lt_of_lt_of_le (br b (nB b ab)) bt.mod.size) (Nat.le_trans bX.nD aN)) ?_)))));rintro v1 aZ ⟨⟨ig,cf,b_⟩,aA⟩;have bb:=(bt.fD aA cf b_).cj;clear b_;refine .ae 2 rfl (aM func15 rfl rfl ?_);obtain⟨ei,vy,vz⟩:=bb.tl (i:=0) rfl;exact ao.mk ⟨⟨ei,vy,vz⟩,bb.mod⟩
 exact .z (.not rfl) (.ae 6 rfl (nJ func15 ⟨⟨0,Acc.nil,.inl rfl⟩,bt.mod⟩))
end Go.Proofs
namespace Go.Proofs
open Tryz
open Go.aF Go.ak
theorem aod{w0:World}{m:bf}(hm:m.Ok)(F8:m.text.length<=1000000)(w4:m.after.word.length<=1000000):
 bG 41 #[.iface 35 (.agg #[U m.slot,U m.query,U m.shard,U m.seq,U m.f',aE m.text,U m.k,U m.batch,.bool m.first,U m.after.cq,aE m.after.word])] w0 (ao λaC ai=>(∃cv:Bool,cv=nV m/\aC=.bool cv)/\Ext w0 ai):=by
 have cL:=au.fS w0;refine bQ func41 rfl ntmps41 rfl ?_;refine .go 12 rfl ?_;refine .z (.iw qS rfl b5 zeroValue46) ?_;refine .go 6 rfl ?_;refine .z (.iw qR rfl b5 zeroValue38) ?_;refine .go 6 rfl ?_;refine .z (.pK p1 rfl) ?_;refine .go 6 rfl ?_;refine .ac (.alloc eA λai aK av aG cu aW=>?_);have a1:=(cL.cW av aG aW).cj;have f1:=a1.k 0;refine .ac (.st eA f1 λaZ aA bR=>?_);have bb:=(a1.o9 (cs':=(eO m)) (i:=0) rfl aA bR).cj;have f2:=bb.k 0;refine .go 3 rfl ?_;refine .z (.cy eA rfl (λ_ e=>e▸f2.row) rfl) ?_;refine .ac (.aH anA rfl (alg (w0:=aZ) (m:=m)  (by first|assumption|assumption) aV aV) ?_);rintro _ bp ⟨⟨aR,aJ,rfl⟩,aO⟩;have a6:=bb.ext aO;refine .ae 2 rfl ?_;exact aM func41 rfl rfl (ao.mk ⟨⟨_,bd,rfl⟩,a6.mod⟩)
theorem aoe{w0:World}{F:Nat->Prop}{c9:Nat}{wid:Int}{ks:List Int}{ep life:Int}{up:Bool}{K B:List cZ}{q:List bf}{n:Nat}{ei eW:Int}(bg:(jn (R:=az) 3 95 164 123 5 176 172 c9 wid ks (⟨ep,up,life,K,B,q⟩)).p F w0)(br:∀b,F b->b<w0.heap.size)(lf:w7 ks)(bX:hX ks n (⟨ep,up,life,K,B,q⟩:ed))(aN:n<=100000)(hm:bY ei/\bY eW):
 bG 14 #[ptr c9 0,.iface 46 (.agg #[U ei,U eW])] w0 (ao λaC ai=>aC=.tuple #[]/\Mod F w0 ai/\∃bw,(jn (R:=az) 3 95 164 123 5 176 172 c9 wid ks (kq wid ks ⟨ep,up,life,K,B,q⟩ (.hE ei eW))).p bw ai/\∀b,bw b->b<ai.heap.size/\(F b\/w0.heap.size<=b)):=by
 have kX:=bX.nD;have ik:=bX.life;have la:=bX.ep;dsimp only at kX ik la;have dU:=au.ht (R:=az) bg (λb ab=>⟨br b ab,id⟩) (λ_ h=>h.elim);obtain⟨⟨jH,dF,gx,jy,dS⟩,bt⟩:=dU.fK 0;change au az F w0 w0 [bl [ay c9 [U wid,U ep,.bool up,jH,ptr dF 0,.map (some gx),ptr dS 0] 95,aS aF.encI 3 1 jH ks,hA 164 123 5 dF life K,jk fB l3 gx (k9 ks jy B),lM jy (ks.map (gm B)),jQ 176 172 dS q]] at bt;have a1:=(bt.u 0 []).n6;refine bQ func14 rfl ntmps14 rfl (have f1:=a1.k 0;.go 4 rfl (.ac (.aH xc rfl (xf (w0:=w0) f1) ?_)));rintro _ ai ⟨rfl,av⟩;have bb:=a1.ext av;cases up
 case true =>
  refine .z (.not rfl) (.go 7 rfl (.z (.iw qR rfl b5 zeroValue38) (.go 3 rfl (.ac (.alloc n4 λaZ aK aA aG cu aW=>have bc:=(bb.cW aA aG aW).n7;have f2:=bc.k 6;.ac (.st n4 f2 λbp aO bR=>?_))))));have ba:=(bc.c_ 6 aO bR.hG).n7;refine .ae 3 rfl (eR (λi=>Nat.beq i 14) 26 (λan=>Mod (ca 0) bp an) mixed λbZ aY=>have bo:=ba.ext aY;have ju:Mod (ca 0) bp bZ:=Mod.ga aY;⟨ju,?_⟩);refine .gd 26 rfl (.nil (.go 6 rfl (.z (.iw p1 rfl b5 zeroValue35) (.go 3 rfl (.ac (.alloc eA λcM aR bu aJ fH cT=>have bB:=(bo.cW bu aJ cT).n8;have f3:=bB.k 7;.ac (.st eA f3 λc7 b' de=>?_)))))));have bI:=(bB.c_ 7 b' de.wI).n8;refine .ae 3 rfl (eR (λi=>Nat.beq i 4) 31 (λan=>Mod (ca 0) c7 an) mixed λdA cG=>have bq:=bI.ext cG;have lq:Mod (ca 0) c7 dA:=Mod.ga cG;⟨lq,?_⟩);refine .gd 31 rfl (.nil (.go 5 rfl (.z (.iw qs rfl b5 zeroValue104) (.go 3 rfl (.ac (.alloc ki λeK bx dg aX gZ e6=>have b3:=(bq.cW dg aX e6).ix;have f4:=b3.k 8;.ac (.st ki f4 λff dm gE=>?_)))))));have bS:=(b3.c_ 8 dm gE.c2).ix;refine .ae 8 rfl (kN func14 rfl ?_);have ck:=(bS.c' [6,7,8] 0 1 2 3 4 5).bT;have cQ:=(ck.l5 (s:=⟨ep,true,life,K,B,q⟩) 3 rfl).bT;rw[YX];exact cQ.rt 3 rfl rfl
 refine .z (.not rfl) (.ae 2 rfl (tP func14 rfl ?_));have a6:=(bb.c' [] 0 1 2 3 4 5).cj;have bc:=(a6.l5 (s:=⟨ep,false,life,K,B,q⟩) 0 rfl).cj;rw[zO];exact bc.rt 0 rfl rfl
theorem aof{w0:World}{F:Nat->Prop}{c9:Nat}{wid:Int}{ks:List Int}{ep life:Int}{up:Bool}{K B:List cZ}{q:List bf}{n:Nat}{ei eW:Int}(bg:(jn (R:=az) 3 95 164 123 5 176 172 c9 wid ks (⟨ep,up,life,K,B,q⟩)).p F w0)(br:∀b,F b->b<w0.heap.size)(lf:w7 ks)(bX:hX ks n (⟨ep,up,life,K,B,q⟩:ed))(aN:n<=100000)(hm:bY ei/\bY eW):
 bG 14 #[ptr c9 0,.iface 104 (.agg #[U ei,U eW])] w0 (ao λaC ai=>aC=.tuple #[]/\Mod F w0 ai/\∃bw,(jn (R:=az) 3 95 164 123 5 176 172 c9 wid ks (kq wid ks ⟨ep,up,life,K,B,q⟩ (.stop ei eW))).p bw ai/\∀b,bw b->b<ai.heap.size/\(F b\/w0.heap.size<=b)):=by
 have kX:=bX.nD;have ik:=bX.life;have la:=bX.ep;dsimp only at kX ik la;obtain⟨w4,BN⟩:=hm;have dU:=au.ht (R:=az) bg (λb ab=>⟨br b ab,id⟩) (λ_ h=>h.elim);obtain⟨⟨jH,dF,gx,jy,dS⟩,bt⟩:=dU.fK 0;change au az F w0 w0 [bl [ay c9 [U wid,U ep,.bool up,jH,ptr dF 0,.map (some gx),ptr dS 0] 95,aS aF.encI 3 1 jH ks,hA 164 123 5 dF life K,jk fB l3 gx (k9 ks jy B),lM jy (ks.map (gm B)),jQ 176 172 dS q]] at bt;have a1:=(bt.u 0 []).n6;refine bQ func14 rfl ntmps14 rfl (have f1:=a1.k 0;.go 4 rfl (.ac (.aH xc rfl (xf (w0:=w0) f1) ?_)));rintro _ ai ⟨rfl,av⟩;have bb:=a1.ext av;cases up
 case true =>
  refine .z (.not rfl) (.go 7 rfl (.z (.iw qR rfl b5 zeroValue38) (.go 3 rfl (.ac (.alloc n4 λaZ aK aA aG cu aW=>have bc:=(bb.cW aA aG aW).n7;have f2:=bc.k 6;.ac (.st n4 f2 λbp aO bR=>?_))))));have ba:=(bc.c_ 6 aO bR.hG).n7;refine .ae 3 rfl (eR (λi=>Nat.beq i 14) 26 (λan=>Mod (ca 0) bp an) mixed λbZ aY=>have bo:=ba.ext aY;have ju:Mod (ca 0) bp bZ:=Mod.ga aY;⟨ju,?_⟩);refine .gd 26 rfl (.nil (.go 6 rfl (.z (.iw p1 rfl b5 zeroValue35) (.go 3 rfl (.ac (.alloc eA λcM aR bu aJ fH cT=>have bB:=(bo.cW bu aJ cT).n8;have f3:=bB.k 7;.ac (.st eA f3 λc7 b' de=>?_)))))));have bI:=(bB.c_ 7 b' de.wI).n8;refine .ae 3 rfl (eR (λi=>Nat.beq i 4) 31 (λan=>Mod (ca 0) c7 an) mixed λdA cG=>have bq:=bI.ext cG;have lq:Mod (ca 0) c7 dA:=Mod.ga cG;⟨lq,?_⟩);refine .gd 31 rfl (.nil (.go 5 rfl (.z (.pK qs rfl) (.go 3 rfl (.ac (.alloc ki λeK bx dg aX gZ e6=>have b3:=(bq.cW dg aX e6).ix;have f4:=b3.k 8;.ac (.st ki f4 λff dm gE=>?_)))))));have bS:=(b3.c_ 8 dm gE.c2).ix;refine .ae 7 rfl (eR (λi=>Nat.beq i 8) 9 (λan=>du an c9 [U wid,U ep,.bool true,jH,ptr dF 0,.map (some gx),ptr dS 0] 95/\du an bx [U ei,U eW] 104) mixed λfm dP=>have ck:=bS.ext dP;have f5:=ck.k 0;have f6:=ck.k 8;⟨⟨f5,f6⟩,?_⟩);refine .gd 2 rfl (.z rfl (.fieldAddr Gy rfl) (.z rfl (.cd vw rfl (λ_ al=>(al.1.cell 6 _ rfl))) (.z rfl (.fieldAddr ZE rfl) (.z rfl (.cd aI rfl (λ_ al=>(al.2.cell 0 _ rfl))) (.z rfl (.fieldAddr ZF rfl) (.z rfl (.cd aI rfl (λ_ al=>(al.2.cell 1 _ rfl))) ?_))))));obtain⟨hW,dx,ds,dc⟩:=ck.ez 5;refine .ac rfl (.aH ank rfl (ald (w0:=fm) ei eW dx (λb ab=>(ds b ab).2) aa) ?_);rintro _ hv ⟨rfl,eV,fr,fg,dZ⟩;have cQ:=(dc _ _ _ eV fg dZ).ix;clear dc fg;have f9:=cQ.k 0;have f10:=cQ.k 8;refine⟨.inr ⟨f9,f10⟩,.nil (kN func14 rfl ?_)⟩;have dh:=(cQ.c' [6,7,8] 0 1 2 3 4 5).bT;have dH:=(dh.l5 (s:=⟨ep,true,life,K,B,(ln q ei eW)⟩) 3 rfl).bT;rw[YW];exact dH.rt 3 rfl rfl
 refine .z (.not rfl) (.ae 2 rfl (tP func14 rfl ?_));have a6:=(bb.c' [] 0 1 2 3 4 5).cj;have bc:=(a6.l5 (s:=⟨ep,false,life,K,B,q⟩) 0 rfl).cj;rw[zO];exact bc.rt 0 rfl rfl
theorem P4{p:Prop}(h:p:=by first|exact YT bd|exact YU bd|exact YV bd):p:=h
theorem P5{p:Prop}(h:p:=by assumption):p:=h
theorem Z'{w0:World}{F:Nat->Prop}{c9:Nat}{wid:Int}{ks:List Int}{ep life:Int}{up:Bool}{K B:List cZ}{q:List bf}{n:Nat}{ei eW gc:Int}(bg:(jn (R:=az) 3 95 164 123 5 176 172 c9 wid ks (⟨ep,up,life,K,B,q⟩)).p F w0)(br:∀b,F b->b<w0.heap.size)(lf:w7 ks)(bX:hX ks n (⟨ep,up,life,K,B,q⟩:ed))(aN:n<=100000)(hm:bY ei/\bY eW/\bY gc):
 bG 14 #[ptr c9 0,.iface 38 (.agg #[U ei,U eW,U gc])] w0 (ao λaC ai=>aC=.tuple #[]/\Mod F w0 ai/\∃bw,(jn (R:=az) 3 95 164 123 5 176 172 c9 wid ks (kq wid ks ⟨ep,up,life,K,B,q⟩ (.l4 ei eW gc))).p bw ai/\∀b,bw b->b<ai.heap.size/\(F b\/w0.heap.size<=b)):=by
 have kX:=bX.nD;have ik:=bX.life;have la:=bX.ep;dsimp only at kX ik la;obtain⟨w4,BN,aaa⟩:=hm;have dU:=au.ht (R:=az) bg (λb ab=>⟨br b ab,id⟩) (λ_ h=>h.elim);obtain⟨⟨jH,dF,gx,jy,dS⟩,bt⟩:=dU.fK 0;change au az F w0 w0 [bl [ay c9 [U wid,U ep,.bool up,jH,ptr dF 0,.map (some gx),ptr dS 0] 95,aS aF.encI 3 1 jH ks,hA 164 123 5 dF life K,jk fB l3 gx (k9 ks jy B),lM jy (ks.map (gm B)),jQ 176 172 dS q]] at bt;have a1:=(bt.u 0 []).n6;refine bQ func14 rfl ntmps14 rfl ?_;have f1:=a1.k 0;refine .go 4 rfl ?_;refine .ac (.aH xc rfl (xf (w0:=w0) f1) ?_);rintro _ ai ⟨rfl,av⟩;have bb:=a1.ext av;cases up
 case true =>
  refine .z (.not rfl) ?_;refine .go 7 rfl ?_;refine .z (.pK qR rfl) ?_;refine .go 3 rfl ?_;refine .ac (.alloc n4 λaZ aK aA aG cu aW=>?_);have bc:=(bb.cW aA aG aW).n7;have f2:=bc.k 6;refine .ac (.st n4 f2 λbp aO bR=>?_);have ba:=(bc.c_ 6 aO bR.hG).n7;refine .ae 3 rfl ?_;refine eR (λi=>Nat.beq i 14) 26 (λan=>Mod (ca 0) bp an) mixed λbZ aY=>?_
  have bo:=ba.ext aY;have ju:Mod (ca 0) bp bZ:=Mod.ga aY;refine⟨ju,?_⟩;refine .gd 2 rfl ?_;refine .z rfl (.fieldAddr Zt rfl) ?_;have f3:=ba.k 6;refine .z rfl (.cd aI rfl (λ_ al=>(f3.cell 0 _ rfl).bD al (Nat.succ_ne_zero _))) ?_;refine .gd 2 rfl ?_;refine .z rfl (.fieldAddr KK rfl) ?_;have f4:=ba.k 0;refine .z rfl (.cd aI rfl (λ_ al=>(f4.cell 0 _ rfl).bD al (Nat.succ_ne_zero _))) ?_;refine .gg rfl (.eq rfl rfl) (λaJ=>?_) λaJ=>?_
  . refine .gd 2 rfl ?_;refine .z rfl (.fieldAddr Zu rfl) ?_;refine .z rfl (.cd aI rfl (λ_ al=>(f3.cell 1 _ rfl).bD al (Nat.succ_ne_zero _))) ?_;have f5:=bo.k 0;obtain⟨aab,sk,aac,aad⟩:=bo.ez 2;refine .gd 1 rfl ?_;refine .ac rfl (.aH GD rfl (GK (w0:=bZ) f5 sk) ?_);rintro _ cM ⟨rfl,bu⟩;have bL:=bo.ext bu;have mD:=ju.ext bu;refine⟨.inr mD,?_⟩;refine .gg rfl (.eq rfl rfl) (λaX=>?_) λaX=>?_
    . refine .gd 2 rfl ?_;refine .z rfl (.fieldAddr KH rfl) ?_;have f6:=ba.k 6;refine .z rfl (.cd aI rfl (λ_ al=>(f6.cell 2 _ rfl).bD al (Nat.succ_ne_zero _))) ?_;refine .gd 2 rfl ?_;refine .z rfl (.fieldAddr BF rfl) ?_;have f7:=ba.k 0;refine .z rfl (.cd aI rfl (λ_ al=>(f7.cell 1 _ rfl).bD al (Nat.succ_ne_zero _))) ?_;refine .dN rfl (.gt rfl rfl) λbK bs=>?_
      refine .gd 1 rfl ?_;refine .nil ?_;cases bK
      case true =>
       replace bs:=zi bs;refine .go 3 rfl ?_;have f8:=bL.k 6;refine .a7 KH aI f8 ?_;refine .go 1 rfl ?_;refine .z (.fieldAddr BF rfl) ?_;have f9:=bL.k 0;refine .ac (.store aI rfl rfl rfl rfl rfl f9 dj λc7 b' fH cT=>?_);have bB:=(bL.c_ 0 b' cT.xZ).n7;refine .go 5 rfl ?_;refine .z (.iw p1 rfl b5 zeroValue35) ?_;refine .go 3 rfl ?_;refine .ac (.alloc eA λdA cC cG cH hc de=>?_);have bq:=(bB.cW cG cH de).n8;have f10:=bq.k 7;refine .ac (.store eA rfl rfl rfl rfl rfl f10 dj λeK dg gZ e6=>?_);have bM:=(bq.c_ 7 dg e6.wI).n8;refine .ae 3 rfl ?_;refine eR (λi=>Nat.beq i 4) 31 (λan=>Mod (ca 0) eK an) mixed λff dm=>?_
       have b3:=bM.ext dm;have JW:Mod (ca 0) eK ff:=Mod.ga dm;refine⟨JW,?_⟩;refine .gd 31 rfl ?_;refine .nil ?_;refine .go 5 rfl ?_;refine .z (.iw qs rfl b5 zeroValue104) ?_;refine .go 3 rfl ?_;refine .ac (.alloc ki λfm c' dP cr kg gE=>?_);have ck:=(b3.cW dP cr gE).ix;have f11:=ck.k 8;refine .ac (.st ki f11 λhv eV pY=>?_);have cQ:=(ck.c_ 8 eV pY.c2).ix;refine .ae 8 rfl ?_;refine kN func14 rfl ?_;have dh:=(cQ.c' [6,7,8] 0 1 2 3 4 5).bT;have dH:=(dh.l5 (s:=⟨gc,true,life,K,B,q⟩) 3 rfl).bT;rw[Pt (ep:=ep) (life:=life) (K:=K) (B:=B) (q:=q) (id:=wid) (a:=ei) (b:=eW) (c:=gc) (Pr P5 P5 P5)];exact dH.rt 3 rfl rfl
      replace bs:=zj bs;refine .go 6 rfl ?_;refine .z (.iw p1 rfl b5 zeroValue35) ?_;refine .go 3 rfl ?_;refine .ac (.alloc eA λc7 cC b' cH fH cT=>?_);have bI:=(bL.cW b' cH cT).n8;have f8:=bI.k 7;refine .ac (.store eA rfl rfl rfl rfl rfl f8 dj λdA cG hc de=>?_);have bq:=(bI.c_ 7 cG de.wI).n8;refine .ae 3 rfl ?_;refine eR (λi=>Nat.beq i 4) 31 (λan=>Mod (ca 0) dA an) mixed λeK dg=>?_
      have bM:=bq.ext dg;have sT:Mod (ca 0) dA eK:=Mod.ga dg;refine⟨sT,?_⟩;refine .gd 31 rfl ?_;refine .nil ?_;refine .go 5 rfl ?_;refine .z (.iw qs rfl b5 zeroValue104) ?_;refine .go 3 rfl ?_;refine .ac (.alloc ki λff c' dm cr gZ e6=>?_);have bS:=(bM.cW dm cr e6).ix;have f9:=bS.k 8;refine .ac (.store ki rfl rfl rfl rfl rfl f9 dj λfm dP kg gE=>?_);have ck:=(bS.c_ 8 dP gE.c2).ix;refine .ae 8 rfl ?_;refine kN func14 rfl ?_;have cQ:=(ck.c' [6,7,8] 0 1 2 3 4 5).bT;have dh:=(cQ.l5 (s:=⟨ep,true,life,K,B,q⟩) 3 rfl).bT;rw[DM (ep:=ep) (life:=life) (K:=K) (B:=B) (q:=q) (id:=wid) (a:=ei) (b:=eW) (c:=gc) P4];exact dh.rt 3 rfl rfl
    refine .gd 10 rfl ?_;refine .nil ?_;refine .go 6 rfl ?_;refine .z (.iw p1 rfl b5 zeroValue35) ?_;refine .go 3 rfl ?_;refine .ac (.alloc eA λc7 bK b' bs fH cT=>?_);have bI:=(bL.cW b' bs cT).n8;have f6:=bI.k 7;refine .ac (.store eA rfl rfl rfl rfl rfl f6 dj λdA cG hc de=>?_);have bq:=(bI.c_ 7 cG de.wI).n8;refine .ae 3 rfl ?_;refine eR (λi=>Nat.beq i 4) 31 (λan=>Mod (ca 0) dA an) mixed λeK dg=>?_
    have bM:=bq.ext dg;have sT:Mod (ca 0) dA eK:=Mod.ga dg;refine⟨sT,?_⟩;refine .gd 31 rfl ?_;refine .nil ?_;refine .go 5 rfl ?_;refine .z (.iw qs rfl b5 zeroValue104) ?_;refine .go 3 rfl ?_;refine .ac (.alloc ki λff cC dm cH gZ e6=>?_);have bS:=(bM.cW dm cH e6).ix;have f7:=bS.k 8;refine .ac (.store ki rfl rfl rfl rfl rfl f7 dj λfm dP kg gE=>?_);have ck:=(bS.c_ 8 dP gE.c2).ix;refine .ae 8 rfl ?_;refine kN func14 rfl ?_;have cQ:=(ck.c' [6,7,8] 0 1 2 3 4 5).bT;have dh:=(cQ.l5 (s:=⟨ep,true,life,K,B,q⟩) 3 rfl).bT;rw[DM (ep:=ep) (life:=life) (K:=K) (B:=B) (q:=q) (id:=wid) (a:=ei) (b:=eW) (c:=gc) P4];exact dh.rt 3 rfl rfl
  refine .gd 17 rfl ?_;refine .nil ?_;refine .go 6 rfl ?_;refine .z (.iw p1 rfl b5 zeroValue35) ?_;refine .go 3 rfl ?_;refine .ac (.alloc eA λcM bx bu aX fH cT=>?_);have bB:=(bo.cW bu aX cT).n8;have f5:=bB.k 7;refine .ac (.st eA f5 λc7 b' de=>?_);have bI:=(bB.c_ 7 b' de.wI).n8;refine .ae 3 rfl ?_;refine eR (λi=>Nat.beq i 4) 31 (λan=>Mod (ca 0) c7 an) mixed λdA cG=>?_
  have bq:=bI.ext cG;have lq:Mod (ca 0) c7 dA:=Mod.ga cG;refine⟨lq,?_⟩;refine .gd 31 rfl ?_;refine .nil ?_;refine .go 5 rfl ?_;refine .z (.iw qs rfl b5 zeroValue104) ?_;refine .go 3 rfl ?_;refine .ac (.alloc ki λeK bK dg bs gZ e6=>?_);have b3:=(bq.cW dg bs e6).ix;have f6:=b3.k 8;refine .ac (.st ki f6 λff dm gE=>?_);have bS:=(b3.c_ 8 dm gE.c2).ix;refine .ae 8 rfl ?_;refine kN func14 rfl ?_;have ck:=(bS.c' [6,7,8] 0 1 2 3 4 5).bT;have cQ:=(ck.l5 (s:=⟨ep,true,life,K,B,q⟩) 3 rfl).bT;rw[DM (ep:=ep) (life:=life) (K:=K) (B:=B) (q:=q) (id:=wid) (a:=ei) (b:=eW) (c:=gc) P4];exact cQ.rt 3 rfl rfl
 refine .z (.not rfl) ?_;refine .ae 2 rfl ?_;refine tP func14 rfl ?_;have a6:=(bb.c' [] 0 1 2 3 4 5).cj;have bc:=(a6.l5 (s:=⟨ep,false,life,K,B,q⟩) 0 rfl).cj;rw[zO];exact bc.rt 0 rfl rfl
theorem GM{p:Prop}(h:p:=by first|exact YQ bd|exact YR bd|exact YS bd|exact Pp (.inl bd)|exact Pp (.inr bd)):p:=h
theorem GN{p:Prop}(h:p:=by assumption):p:=h
theorem aae{w0:World}{F:Nat->Prop}{c9:Nat}{wid:Int}{ks:List Int}{ep life:Int}{up:Bool}{K B:List cZ}{q:List bf}{n:Nat}{a:bf}(bg:(jn (R:=az) 3 95 164 123 5 176 172 c9 wid ks (⟨ep,up,life,K,B,q⟩)).p F w0)(br:∀b,F b->b<w0.heap.size)(lf:w7 ks)(bX:hX ks n (⟨ep,up,life,K,B,q⟩:ed))(aN:n<=100000)(hm:a.Ok/\a.text.length<=1000/\a.after.word.length<=1000):
 bG 14 #[ptr c9 0,.iface 35 (.agg #[U a.slot,U a.query,U a.shard,U a.seq,U a.f',aE a.text,U a.k,U a.batch,.bool a.first,U a.after.cq,aE a.after.word])] w0 (ao λaC ai=>aC=.tuple #[]/\Mod F w0 ai/\∃bw,(jn (R:=az) 3 95 164 123 5 176 172 c9 wid ks (kq wid ks ⟨ep,up,life,K,B,q⟩ (.ask a))).p bw ai/\∀b,bw b->b<ai.heap.size/\(F b\/w0.heap.size<=b)):=by
 have kX:=bX.nD;have ik:=bX.life;have la:=bX.ep;dsimp only at kX ik la;obtain⟨aaf,F8,zW⟩:=hm;have dU:=au.ht (R:=az) bg (λb ab=>⟨br b ab,id⟩) (λ_ h=>h.elim);obtain⟨⟨jH,dF,gx,jy,dS⟩,bt⟩:=dU.fK 0;change au az F w0 w0 [bl [ay c9 [U wid,U ep,.bool up,jH,ptr dF 0,.map (some gx),ptr dS 0] 95,aS aF.encI 3 1 jH ks,hA 164 123 5 dF life K,jk fB l3 gx (k9 ks jy B),lM jy (ks.map (gm B)),jQ 176 172 dS q]] at bt;have a1:=(bt.u 0 []).n6;refine bQ func14 rfl ntmps14 rfl (have f1:=a1.k 0;.go 4 rfl (.ac (.aH xc rfl (xf (w0:=w0) f1) ?_)));rintro _ ai ⟨rfl,av⟩;have bb:=a1.ext av;cases up
 case true =>
  refine .z (.not rfl) (.go 7 rfl (.z (.iw qR rfl b5 zeroValue38) ?_));refine .go 3 rfl (.ac (.alloc n4 λaZ aK aA aG cu aW=>have bc:=(bb.cW aA aG aW).n7;have f2:=bc.k 6;.ac (.st n4 f2 λbp aO bR=>?_)));have ba:=(bc.c_ 6 aO bR.hG).n7;refine .ae 3 rfl (eR (λi=>Nat.beq i 14) 26 (λan=>Mod (ca 0) bp an) mixed λbZ aY=>have bo:=ba.ext aY;have ju:Mod (ca 0) bp bZ:=Mod.ga aY;⟨ju,?_⟩);refine .gd 26 rfl (.nil (.go 6 rfl ?_));refine .z (.pK p1 rfl) (.go 3 rfl (.ac (.alloc eA λcM aR bu aJ fH cT=>?_)));have bB:=(bo.cW bu aJ cT).n8;have f3:=bB.k 7;refine .ac (.st eA f3 λc7 b' de=>?_);have bI:=(bB.o9 (cs':=(eO a)) (i:=7) rfl b' de).n8;refine .ae 3 rfl (eR (λi=>Nat.beq i 4) 31 (λan=>Mod (ca 0) c7 an) mixed λdA cG=>have bq:=bI.ext cG;have lq:Mod (ca 0) c7 dA:=Mod.ga cG;⟨lq,?_⟩);have f4:=bI.k 7;refine .gd 2 rfl (.z rfl (.cy eA rfl (λ_ al=>f4.row.bD al (Nat.succ_ne_zero _)) rfl) (.z rfl (.mkIf p1 rfl) ?_));refine .ac rfl (.aH ang rfl (aod (w0:=dA) (m:=a) GN aa aa) ?_);rintro _ eK ⟨⟨bx,aX,rfl⟩,dg⟩;have bM:=bq.ext dg;have sT:=lq.ext dg;refine⟨.inr sT,.gd 2 rfl ?_⟩;cases bx
  case true =>
   replace aX:=aX.symm;refine .z rfl (.fieldAddr Bc rfl) (have f5:=bI.k 7;.z rfl (.cd aI rfl (λ_ al=>(f5.cell 4 _ rfl).bD al (Nat.succ_ne_zero _))) (.gd 2 rfl ?_));refine .z rfl (.fieldAddr BF rfl) (have f6:=bI.k 0;.z rfl (.cd aI rfl (λ_ al=>(f6.cell 1 _ rfl).bD al (Nat.succ_ne_zero _))) (.gg rfl (.eq rfl rfl) (λbs=>?_) λbs=>?_))
   . refine .gd 2 rfl (.z rfl (.fieldAddr Bc rfl) (.z rfl (.cd aI rfl (λ_ al=>(f5.cell 4 _ rfl).bD al (Nat.succ_ne_zero _))) ?_));refine .bh rfl (.gt rfl rfl) (λcH=>?_) λcH=>?_
     . refine .gd 4 rfl (.z rfl (.fieldAddr Gx rfl) (.z rfl (.cd Gu rfl (λ_ al=>(f6.cell 5 _ rfl).bD al (Nat.succ_ne_zero _))) ?_));refine .z rfl (.fieldAddr rk rfl) (.z rfl (.cd aI rfl (λ_ al=>(f5.cell 2 _ rfl).bD al (Nat.succ_ne_zero _))) ?_);have f7:=bI.mp (i:=3) rfl;have BJ:jy.length=ks.length:=(Py (bM.nO 4).choose_spec.1).trans (List.length_map ..);rcases Pl (B:=B) BJ a.shard with ⟨KT,pk⟩|⟨j,mO,BK,BL,pk⟩
       . skip
         refine .z rfl (.VS (key:=fB) (val:=l3) (u_ underlying3) underlying92 zeroValue101 rfl rfl (λ_ al=>(kQ.keep f7 al (Nat.succ_ne_zero _)).o) pk) (.z rfl (.field (v:=(.pointer none:Value)) rfl (λ_=>by kernel_rfl)) (.z rfl (.EK underlying99 rfl rfl) ?_));refine .gd 1 rfl (.nil (.go 5 rfl ?_));refine .z (.iw qs rfl b5 zeroValue104) (.go 3 rfl (.ac (.alloc ki λff c' dm cr gZ e6=>?_)));have bS:=(bM.cW dm cr e6).ix;have f8:=bS.k 8;refine .ac (.store ki rfl rfl rfl rfl rfl f8 dj λfm dP kg gE=>have ck:=(bS.c_ 8 dP gE.c2).ix;.ae 8 rfl (kN func14 rfl ?_));have cQ:=(ck.c' [6,7,8] 0 1 2 3 4 5).bT;have dh:=(cQ.l5 (s:=⟨ep,true,life,K,B,q⟩) 3 rfl).bT;rw[yq (ep:=ep) (life:=life) (K:=K) (B:=B) (q:=q) (ks:=ks) (a:=a) GM];exact dh.rt 3 rfl rfl
       . skip
         have BM:(ks.map (gm B))[j]?=some (gm B a.shard):=(by rw[List.getElem?_map,BK];rfl);have sl:=List.mem_of_getElem? BK;obtain⟨aog,aoh,GL,aoi⟩:=bM.Px (i:=4) rfl BL BM;rcases GL with ⟨cN,hr⟩|⟨aoj,_,_,cN,hr,_⟩
         . subst cN;refine .z rfl (.Fb (key:=fB) (val:=l3) (u_ underlying3) underlying92 zeroValue101 rfl rfl (λ_ al=>(kQ.keep f7 al (Nat.succ_ne_zero _)).o) pk) (.z rfl (.field (v:=(.pointer none:Value)) rfl (λ_=>by kernel_rfl)) (.z rfl (.EK underlying99 rfl rfl) ?_));refine .gd 1 rfl (.nil (.go 5 rfl ?_));refine .z (.iw qs rfl b5 zeroValue104) (.go 3 rfl (.ac (.alloc ki λff c' dm cr gZ e6=>?_)));have bS:=(bM.cW dm cr e6).ix;have f8:=bS.k 8;refine .ac (.store ki rfl rfl rfl rfl rfl f8 dj λfm dP kg gE=>have ck:=(bS.c_ 8 dP gE.c2).ix;.ae 8 rfl (kN func14 rfl ?_));have cQ:=(ck.c' [6,7,8] 0 1 2 3 4 5).bT;have dh:=(cQ.l5 (s:=⟨ep,true,life,K,B,q⟩) 3 rfl).bT;rw[yq (ep:=ep) (life:=life) (K:=K) (B:=B) (q:=q) (ks:=ks) (a:=a) GM];exact dh.rt 3 rfl rfl
         . subst cN;refine .z rfl (.Fb (key:=fB) (val:=l3) (u_ underlying3) underlying92 zeroValue101 rfl rfl (λ_ al=>(kQ.keep f7 al (Nat.succ_ne_zero _)).o) pk) (.z rfl (.field (v:=ptr aoj 0) rfl (λ_=>by kernel_rfl)) (.z rfl (.EK underlying99 rfl rfl) ?_));refine .gd 1 rfl (.nil (.ae 1 rfl ?_));refine eR (λi=>Nat.beq i 5) 6 (λan=>du an c9 [U wid,U ep,.bool true,jH,ptr dF 0,.map (some gx),ptr dS 0] 95/\du an aR (eO a) 35) mixed λff dm=>have b3:=bM.ext dm;have f8:=b3.k 0;have f9:=b3.k 7;⟨⟨f8,f9⟩,?_⟩
           refine .gd 2 rfl (.z rfl (.fieldAddr Gy rfl) (.z rfl (.cd vw rfl (λ_ al=>(al.1.cell 6 _ rfl))) ?_));refine .z rfl (.cy eA rfl (λ_ al=>al.2.row) rfl) ?_;obtain⟨hW,dx,ds,dc⟩:=b3.ez 5;refine .ac rfl (.aH anj rfl (akX (w0:=ff) (a:=a) dx (λb ab=>(ds b ab).2) GN aa) ?_);rintro _ fm ⟨rfl,dP,fr,fg,dZ⟩;have bS:=(dc _ _ _ dP fg dZ).n8;clear dc fg;have f12:=bS.k 0;have f13:=bS.k 7;refine⟨.inr ⟨f12,f13⟩,.nil (.go 3 rfl ?_)⟩;refine .z (.iw qs rfl b5 zeroValue104) (.go 3 rfl (.ac (.alloc ki λhv c' eV cr gZ e6=>?_)));have cQ:=(bS.cW eV cr e6).ix;have f14:=cQ.k 8;refine .ac (.store ki rfl rfl rfl rfl rfl f14 dj λjl gQ kg gE=>have dh:=(cQ.c_ 8 gQ gE.c2).ix;.ae 8 rfl (kN func14 rfl ?_));have dH:=(dh.c' [6,7,8] 0 1 2 3 4 5).bT;have eB:=(dH.l5 (s:=⟨ep,true,life,K,B,(gf q a)⟩) 3 rfl).bT;rw[Ps (ep:=ep) (life:=life) (K:=K) (B:=B) (q:=q) (ks:=ks) (a:=a) (Pq GN GN GN sl hr)];exact eB.rt 3 rfl rfl
     refine .gd 12 rfl (.nil (.go 5 rfl ?_));refine .z (.iw qs rfl b5 zeroValue104) (.go 3 rfl (.ac (.alloc ki λff c' dm cr gZ e6=>?_)));have bS:=(bM.cW dm cr e6).ix;have f7:=bS.k 8;refine .ac (.store ki rfl rfl rfl rfl rfl f7 dj λfm dP kg gE=>have ck:=(bS.c_ 8 dP gE.c2).ix;.ae 8 rfl (kN func14 rfl ?_));have cQ:=(ck.c' [6,7,8] 0 1 2 3 4 5).bT;have dh:=(cQ.l5 (s:=⟨ep,true,life,K,B,q⟩) 3 rfl).bT;rw[yq (ep:=ep) (life:=life) (K:=K) (B:=B) (q:=q) (ks:=ks) (a:=a) GM];exact dh.rt 3 rfl rfl
   refine .gd 17 rfl (.nil (.go 5 rfl ?_));refine .z (.iw qs rfl b5 zeroValue104) (.go 3 rfl (.ac (.alloc ki λff cC dm cH gZ e6=>?_)));have bS:=(bM.cW dm cH e6).ix;have f7:=bS.k 8;refine .ac (.store ki rfl rfl rfl rfl rfl f7 dj λfm dP kg gE=>have ck:=(bS.c_ 8 dP gE.c2).ix;.ae 8 rfl (kN func14 rfl ?_));have cQ:=(ck.c' [6,7,8] 0 1 2 3 4 5).bT;have dh:=(cQ.l5 (s:=⟨ep,true,life,K,B,q⟩) 3 rfl).bT;rw[yq (ep:=ep) (life:=life) (K:=K) (B:=B) (q:=q) (ks:=ks) (a:=a) GM];exact dh.rt 3 rfl rfl
  replace aX:=aX.symm;refine .gd 24 rfl (.nil (.go 5 rfl ?_));refine .z (.iw qs rfl b5 zeroValue104) (.go 3 rfl (.ac (.alloc ki λff bK dm bs gZ e6=>?_)));have bS:=(bM.cW dm bs e6).ix;have f5:=bS.k 8;refine .ac (.st ki f5 λfm dP gE=>?_);have ck:=(bS.c_ 8 dP gE.c2).ix;refine .ae 8 rfl (kN func14 rfl ?_);have cQ:=(ck.c' [6,7,8] 0 1 2 3 4 5).bT;have dh:=(cQ.l5 (s:=⟨ep,true,life,K,B,q⟩) 3 rfl).bT;rw[yq (ep:=ep) (life:=life) (K:=K) (B:=B) (q:=q) (ks:=ks) (a:=a) GM];exact dh.rt 3 rfl rfl
 refine .z (.not rfl) (.ae 2 rfl (tP func14 rfl ?_));have a6:=(bb.c' [] 0 1 2 3 4 5).cj;have bc:=(a6.l5 (s:=⟨ep,false,life,K,B,q⟩) 0 rfl).cj;rw[zO];exact bc.rt 0 rfl rfl
end Go.Proofs
