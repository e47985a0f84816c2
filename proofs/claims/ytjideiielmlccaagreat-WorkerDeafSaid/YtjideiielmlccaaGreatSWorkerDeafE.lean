/-
  What the law WorkerDeaf needs, part 5 of 7: theory, and walks through the code. Names are said short.
-/
import Derived.Test.YtjideiielmlccaaGreatSWorkerDeafD
set_option linter.unusedVariables false
set_option linter.unusedSimpArgs false
set_option maxRecDepth 20000
set_option maxHeartbeats 8000000
namespace Go.Proofs
open Tryz
open Go.aH Go.ak
theorem w1:ui Tryz.prog 172 lD:=⟨λe a w=>by kernel_rfl,λa=>by simp[lD,Instr.sameBits],⟨_,underlying172,λa b=>rfl⟩,λa b w=>(aji a b w)⟩
theorem Kg{w0:World}{F:Nat->Prop}{dc:Nat}{q:List bc}(bf:(j2 (R:=az) 176 172 dc q).p F w0)(bs:∀b,F b->b<w0.heap.size):
 bI 96 #[ptr dc 0] w0 (al λaC ai=>aC=U (q.length:Int)/\Ext w0 ai):=by
 obtain⟨⟨mM,iS,m⟩,dH,fe,nq,wB,alf⟩:=bf;have tO:=(nq 0 _ rfl).1;obtain⟨g0,Gb,nv⟩:=nq 1 _ rfl;have Kh:=(nq 2 _ rfl).1;have wV:=Gb.ch.cB (Nat.zero_le _) Gb.lt;have cW:=au.fZ w0;have DI:(q.map bc.pl).length=q.length:=List.length_map ..;change dv w0 dc [mM,.map (some iS)] 176 at tO;change aq k2 w0 (cm w0) mM (q.map bc.pl) at wV;change kQ lD lg w0 iS m at Kh;change jm m q at dH;exact bR func96 rfl ntmps96 rfl (.go 8 rfl (.z (.og underlying93 rfl rfl) (.go 7 rfl (.z (.fieldAddr x5 rfl) (have bV:=tO.row.sub 0 1 dn;.z (.dN xZ bV) (.z (.ct underlying173 (wV) rfl) (.ae 2 rfl (aM func96 rfl rfl (al.mk ⟨(cS aa),cW.mod⟩)))))))))
theorem alg{w0:World}:
 bI 93 #[] w0 (al λaC ai=>∃dc bu,aC=ptr dc 0/\Ext w0 ai/\(j2 (R:=az) 176 172 dc []).p bu ai/\∀b,bu b->b<ai.heap.size/\w0.heap.size<=b):=by
 have cW:=au.fZ w0;refine bR func93 rfl ntmps93 rfl (.go 6 rfl (.ac (.Xj (key:=lD) (val:=lg) λai aK av aG cr aW=>have a7:=(cW.Xk av aG aW).cf;.z (.build (vs:=#[(1,(.map (some aK):Value))]) (v:=.agg #[.slice none 0 0,.map (some aK)]) rfl (λ_=>by kernel_rfl)) (.ac (.box [.slice none 0 0,.map (some aK)] rfl rfl λa1 aR aA aL eg bQ=>have aZ:=(a7.cR aA aL bQ).bO;.ae 2 rfl (aM func93 rfl rfl ?_))))));have bb:au az az w0 a1 [jl lD lg aK [],ax aR [.slice none 0 0,.map (some aK)] 176,lC k2 172 2 (.slice none 0 0) ([]:List (Int×Int))]:=aZ.new (Mod.refl _ _) (F:=λ_=>False) ⟨0,jx.nil,λb ab=>aa⟩ (λ_ h=>h.elim);have a_:=(bb.bz [] 1 2 0).cf;have bl:=(a_.uk 0 rfl (q:=[]) jm.nil).cf;obtain⟨cA,cU,cV,cM⟩:=bl.fin;exact al.mk ⟨_,cU,rfl,cA,cV,λb ab=>⟨(cM b ab).1,(cM b ab).2.resolve_left id⟩⟩
theorem DJ{p:Prop}(h:p:=by rw[gP.2];exact nx):p:=h
theorem alh{w0:World}{F:Nat->Prop}{dc:Nat}{q:List bc}{a:bc}(bf:(j2 (R:=az) 176 172 dc q).p F w0)(bs:∀b,F b->b<w0.heap.size)(bX:a.Ok)(O0:q.length<=100000):
 bI 47 #[ptr dc 0,.agg #[U a.slot,U a.query,U a.shard,U a.seq,U a.fP,aE a.text,U a.k,U a.batch,.bool a.first,U a.after.ck,aE a.after.word]] w0 (al λaC ai=>aC=.bool (nn q a)/\Mod F w0 ai/\∃bu,(j2 (R:=az) 176 172 dc (gb q a)).p bu ai/\∀b,bu b->b<ai.heap.size/\(F b\/w0.heap.size<=b)):=by
 have vM:=bX.slot;have Bt:=bX.shard;have dO:=au.hr (R:=az) bf (λb ab=>⟨bs b ab,id⟩) (λ_ h=>h.elim);have bw:au az F w0 w0 [j2 176 172 dc q]:=dO;obtain⟨⟨nZ,gL,mA⟩,a7⟩:=bw.fM 0;obtain⟨nx,bd⟩:=a7.and (i:=0) rfl;change au az F w0 w0 [bk [ax dc [nZ,.map (some gL)] 176,lC k2 172 2 nZ (q.map bc.pl),jl lD lg gL mA]] at bd;change jm mA q at nx;have aZ:=(bd.u 0 []).cx;have DI:(q.map bc.pl).length=q.length:=List.length_map ..;refine bR func47 rfl ntmps47 rfl (.go 2 rfl (.ac (.box (eC a) rfl rfl λai aK av aG cr aW=>have a_:=(aZ.cR av aG aW).bU;.go 6 rfl (.z (.og underlying93 rfl rfl) (.go 1 rfl (have f1:=a_.k 3;.a6 ts aJ f1 (.bg (.lt rfl rfl) (λaL=>?_) λaL=>?_)))))))
 . exact .ae 22 rfl (aM func47 rfl rfl (have gP:=Fz (q:=q) (a:=a) aa;have bl:=(a_.ty (lC k2 172 2 nZ ((gb q a).map bc.pl)) 1 rfl (λdV bG=>(by rw[gP.2];exact bG))).bU;have bM:=(bl.bz [3] 0 1 2).bO;have bD:=(bM.uk 1 rfl (q:=(gb q a)) DJ).bO;bD.rt 1 rfl (congrArg Value.bool gP.1.symm)))
 refine .go 2 rfl (.a6 ts aJ f1 (.bg (.ge rfl rfl) (λaX=>?_) λaX=>?_))
 . exact .ae 17 rfl (aM func47 rfl rfl (have gP:=Fz (q:=q) (a:=a) aa;have bl:=(a_.ty (lC k2 172 2 nZ ((gb q a).map bc.pl)) 1 rfl (λdV bG=>(by rw[gP.2];exact bG))).bU;have bM:=(bl.bz [3] 0 1 2).bO;have bD:=(bM.uk 1 rfl (q:=(gb q a)) DJ).bO;bD.rt 1 rfl (congrArg Value.bool gP.1.symm)))
 refine .go 2 rfl (.a6 qG aJ f1 (.bg (.lt rfl rfl) (λbq=>?_) λbq=>?_))
 . exact .ae 12 rfl (aM func47 rfl rfl (have gP:=Fz (q:=q) (a:=a) aa;have bl:=(a_.ty (lC k2 172 2 nZ ((gb q a).map bc.pl)) 1 rfl (λdV bG=>(by rw[gP.2];exact bG))).bU;have bM:=(bl.bz [3] 0 1 2).bO;have bD:=(bM.uk 1 rfl (q:=(gb q a)) DJ).bO;bD.rt 1 rfl (congrArg Value.bool gP.1.symm)))
 refine .go 2 rfl (.a6 qG aJ f1 (.bg (.ge rfl rfl) (λcG=>?_) λcG=>?_))
 . exact .ae 7 rfl (aM func47 rfl rfl (have gP:=Fz (q:=q) (a:=a) aa;have bl:=(a_.ty (lC k2 172 2 nZ ((gb q a).map bc.pl)) 1 rfl (λdV bG=>(by rw[gP.2];exact bG))).bU;have bM:=(bl.bz [3] 0 1 2).bO;have bD:=(bM.uk 1 rfl (q:=(gb q a)) DJ).bO;bD.rt 1 rfl (congrArg Value.bool gP.1.symm)))
 refine .go 6 rfl (.a6 ts aJ f1 (.a6 qG aJ f1 (.z (.build (vs:=#[(0,(U a.slot:Value)),(1,(U a.shard:Value))]) (v:=.agg #[U a.slot,U a.shard]) rfl (λ_=>by kernel_rfl)) (.ac (.alloc j' λa1 de aA cv eg bQ=>have bM:=(a_.cR aA cv bQ).cQ;have f2:=bM.k 4;.ac (.st j' f2 λbp aP cN=>?_))))));have bD:=(bM.c8 4 aP cN.c2).cQ;refine .ae 2 rfl (eV (λi=>Nat.beq i 9 || Nat.beq i 10) 12 (λan=>dv an dc [nZ,.map (some gL)] 176/\dv an de [U a.slot,U a.shard] 172/\kQ lD lg an gL mA) mixed λbW aY=>have bH:=bD.ext aY;have f3:=bH.k 0;have f4:=bH.k 4;have f5:=bH.mp (i:=2) rfl;⟨⟨f3,f4,f5⟩,?_⟩);refine .gd 2 rfl (.z rfl (.fieldAddr x6 rfl) (.z rfl (.cg x0 rfl (λ_ ao=>(ao.1.cell 1 _ rfl))) (.z rfl (.cq j' rfl (λ_ ao=>ao.2.1.row) rfl) ?_)))
 cases na:lh q a.pl with
 | none =>
  refine .z rfl (.aiG (a:=a.pl) (val:=lg) w1 underlying174 zeroValue35 rfl rfl (λ_ ao=>ao.2.2) (by rw[nx.at_];exact na)) (.gd 3 rfl (.ac rfl (.alloc dZ λcF gX bt du g' c'=>have bP:=(bH.cR bt du c').n6;have f8:=bP.k 0;have f9:=bP.k 4;have f10:=bP.mp (i:=2) rfl;⟨.inr ⟨f8,f9,f10⟩,(have f11:=bP.k 5;.ac rfl (.store dZ rfl rfl rfl rfl rfl f11 dn λc9 b9 gY eW=>have b8:=(bP.c8 5 b9 eW.vp).n6;have f12:=b8.k 0;have f13:=b8.k 4;have f14:=b8.mp (i:=2) rfl;⟨.inr ⟨f12,f13,f14⟩,.gd 1 rfl (.nil (.go 32 rfl (.z (.not rfl) (.ae 3 rfl (eV (λi=>Nat.beq i 6 || Nat.beq i 7 || Nat.beq i 10) 10 (λan=>dv an dc [nZ,.map (some gL)] 176/\dv an de [U a.slot,U a.shard] 172) mixed λdC cH=>?_)))))⟩))⟩)));have bT:=b8.ext cH;have f15:=bT.k 0;have f16:=bT.k 4;refine⟨⟨f15,f16⟩,.gd 3 rfl (.z rfl (.fieldAddr x5 rfl) (.z rfl (.cg xZ rfl (λ_ ao=>(ao.1.cell 0 _ rfl))) (.z rfl (.cq j' rfl (λ_ ao=>ao.2.row) rfl) (.ac rfl (.buildSlice [(.agg #[U a.slot,U a.shard]:Value)] underlying173 j' rfl rfl rfl b2 λeQ hJ dj dz kd gA=>have cz:=aq.eD (enc:=k2) gA ([(Prod.mk a.slot a.shard)]:List (Int×Int)) 1 rfl rfl eS;have cT:=(bT.hF dj dz kd cz).n7;have f19:=cT.k 0;have f20:=cT.k 4;⟨.inr ⟨f19,f20⟩,?_⟩)))))⟩;obtain⟨g1,yj,dr,bC⟩:=cT.Dd (i:=1) rfl;have f21:=cT.gf 6 0;refine .ac rfl (.aiH yj underlying173 j' rfl vk NR rfl rfl (f21) dg (by simp only[List.length_cons,List.length_nil];omega) (by unfold maxLen;simp only[List.length_cons,List.length_nil];omega) λv1 g2 fl cc dp b6=>?_);have df:=(bC _ _ _ _ dp cc (b6.imp id .inr)).n7;clear b6;have f22:=df.k 0;have f23:=df.k 4;refine⟨.inr ⟨f22,f23⟩,.gd 1 rfl (.z rfl (.fieldAddr x5 rfl) ?_)⟩;have f24:=df.Fw (i:=1) rfl;obtain⟨bZ,b0,ef⟩:=f24.shape;subst ef;refine .ac rfl (.st xZ f22 λfs dM pZ=>?_);have dS:=(df.c8 0 dM pZ.c2).n7;refine⟨.inl rfl,.nil (.ae 2 rfl (py.Ap (λi=>Nat.beq i 6) (λi=>Nat.beq i 3 || Nat.beq i 4 || Nat.beq i 5) 6 (λ_=>True) mixed λhy eT=>have eu:=dS.ext eT;⟨trivial,?_⟩))⟩;refine .gd 2 rfl (.ou rfl (.fieldAddr x6 rfl) (have f25:=eu.k 0;.mN rfl (.fU x0 f25) (have f26:=eu.k 4;.mN rfl (.cq j' rfl (λ_ e=>e▸f26.row) rfl) ?_)));have f27:=eu.k 3;refine .mN rfl (.cq dZ rfl (λ_ e=>e▸f27.row) rfl) ?_;have f28:=eu.mp (i:=2) rfl;exact .ac rfl (.NM a.pl a w1 underlying174 rfl rfl rfl f28 λi_ gO F3 x7=>have ff:=(eu.C' (i:=2) rfl gO x7).n7;⟨.inl rfl,.nil (.ae 4 rfl (aM func47 rfl rfl (have gP:=Xz aa na;have eo:=(ff.ty (lC k2 172 2 (.slice bZ ((q.map bc.pl)++[(Prod.mk a.slot a.shard)]).length b0) ((gb q a).map bc.pl)) 1 rfl (λdV bG=>(by rw[gP.2,List.map_append];exact bG))).n7;have en:=(eo.bz [3,4,5,6] 0 1 2).cQ;have f':=(en.uk 4 rfl (q:=(gb q a)) (by rw[gP.2];exact nx.add na)).cQ;f'.rt 4 rfl (congrArg Value.bool gP.1.symm))))⟩)
 | some x =>
  refine .z rfl (.aiF (a:=a.pl) (val:=lg) w1 underlying174 zeroValue35 rfl rfl (λ_ ao=>ao.2.2) (by rw[nx.at_];exact na)) (.gd 3 rfl (.ac rfl (.alloc dZ λcF gX bt du g' c'=>have bP:=(bH.cR bt du c').n6;have f8:=bP.k 0;have f9:=bP.k 4;have f10:=bP.mp (i:=2) rfl;⟨.inr ⟨f8,f9,f10⟩,(have f11:=bP.k 5;.ac rfl (.st dZ f11 λc9 b9 eW=>?_))⟩)));have b8:=(bP.oJ (cs':=(eC x)) (i:=5) rfl b9 eW).n6;have f12:=b8.k 0;have f13:=b8.k 4;have f14:=b8.mp (i:=2) rfl;refine⟨.inr ⟨f12,f13,f14⟩,.gd 1 rfl (.nil (.go 6 rfl (have f15:=b8.k 5;.a6 sF aJ f15 (have f16:=b8.k 3;.a6 sF aJ f16 (.bg (.gt rfl rfl) (λdz=>?_) λdz=>?_)))))⟩
  . exact .ae 22 rfl (aM func47 rfl rfl (have gP:=NV na aa;have bT:=(b8.ty (lC k2 172 2 nZ ((gb q a).map bc.pl)) 1 rfl (λdV bG=>(by rw[gP.2];exact bG))).n6;have cp:=(bT.bz [3,4,5] 0 1 2).bU;have cT:=(cp.uk 3 rfl (q:=(gb q a)) DJ).bU;cT.rt 3 rfl (congrArg Value.bool gP.1.symm)))
  refine .go 1 rfl (.a6 sF aJ f15 (.a6 sF aJ f16 (.gl (.eq rfl rfl) (λe5=>?_) λe5=>?_)))
  . refine .go 1 rfl (.a6 x4 aJ f15 (.a6 x4 aJ f16 (.bg (.gt rfl rfl) (λgS=>?_) λgS=>?_)))
    . exact .ae 10 rfl (aM func47 rfl rfl (have gP:=NV na aa;have bT:=(b8.ty (lC k2 172 2 nZ ((gb q a).map bc.pl)) 1 rfl (λdV bG=>(by rw[gP.2];exact bG))).n6;have cp:=(bT.bz [3,4,5] 0 1 2).bU;have cT:=(cp.uk 3 rfl (q:=(gb q a)) DJ).bU;cT.rt 3 rfl (congrArg Value.bool gP.1.symm)))
    refine .go 9 rfl (.z (.not rfl) (.ae 6 rfl (py.Ap (λi=>Nat.beq i 6) (λi=>Nat.beq i 3 || Nat.beq i 4 || Nat.beq i 5) 6 (λ_=>True) mixed λdC cH=>have bT:=b8.ext cH;⟨trivial,?_⟩)));refine .gd 2 rfl (.ou rfl (.fieldAddr x6 rfl) (have f17:=bT.k 0;.mN rfl (.fU x0 f17) (have f18:=bT.k 4;.mN rfl (.cq j' rfl (λ_ e=>e▸f18.row) rfl) ?_)));have f19:=bT.k 3;refine .mN rfl (.cq dZ rfl (λ_ e=>e▸f19.row) rfl) ?_;have f20:=bT.mp (i:=2) rfl;exact .ac rfl (.NM a.pl a w1 underlying174 rfl rfl rfl f20 λeQ dj kd gA=>have cp:=(bT.C' (i:=2) rfl dj gA).n6;⟨.inl rfl,.nil (.ae 4 rfl (aM func47 rfl rfl (have gP:=Jj aa na aa;have cT:=(cp.ty (lC k2 172 2 nZ ((gb q a).map bc.pl)) 1 rfl (λdV bG=>(by rw[gP.2,NS];exact bG))).n6;have df:=(cT.bz [3,4,5] 0 1 2).bU;have dS:=(df.uk 3 rfl (q:=(gb q a)) (by rw[gP.2];exact nx.put na)).bU;dS.rt 3 rfl (congrArg Value.bool gP.1.symm))))⟩)
  refine .go 15 rfl (.z (.not rfl) (.ae 6 rfl (py.Ap (λi=>Nat.beq i 6) (λi=>Nat.beq i 3 || Nat.beq i 4 || Nat.beq i 5) 6 (λ_=>True) mixed λdC cH=>have bT:=b8.ext cH;⟨trivial,?_⟩)));refine .gd 2 rfl (.ou rfl (.fieldAddr x6 rfl) (have f17:=bT.k 0;.mN rfl (.fU x0 f17) (have f18:=bT.k 4;.mN rfl (.cq j' rfl (λ_ e=>e▸f18.row) rfl) ?_)));have f19:=bT.k 3;refine .mN rfl (.cq dZ rfl (λ_ e=>e▸f19.row) rfl) ?_;have f20:=bT.mp (i:=2) rfl;exact .ac rfl (.NM a.pl a w1 underlying174 rfl rfl rfl f20 λeQ dj kd gA=>have cp:=(bT.C' (i:=2) rfl dj gA).n6;⟨.inl rfl,.nil (.ae 4 rfl (aM func47 rfl rfl (have gP:=Jj aa na aa;have cT:=(cp.ty (lC k2 172 2 nZ ((gb q a).map bc.pl)) 1 rfl (λdV bG=>(by rw[gP.2,NS];exact bG))).n6;have df:=(cT.bz [3,4,5] 0 1 2).bU;have dS:=(df.uk 3 rfl (q:=(gb q a)) (by rw[gP.2];exact nx.put na)).bU;dS.rt 3 rfl (congrArg Value.bool gP.1.symm))))⟩)
theorem ali{w0:World}{F:Nat->Prop}{dc:Nat}{a:bc}{q:List bc}(bf:(j2 (R:=az) 176 172 dc (a::q)).p F w0)(bs:∀b,F b->b<w0.heap.size)(O0:q.length<=100000):
 bI 50 #[ptr dc 0] w0 (al λaC ai=>aC=.tuple #[lg a,.bool true]/\Mod F w0 ai/\∃bu,(j2 (R:=az) 176 172 dc q).p bu ai/\∀b,bu b->b<ai.heap.size/\(F b\/w0.heap.size<=b)):=by
 have dO:=au.hr (R:=az) bf (λb ab=>⟨bs b ab,id⟩) (λ_ h=>h.elim);have bw:au az F w0 w0 [j2 176 172 dc (a::q)]:=dO;refine bR func50 rfl ntmps50 rfl (.go 2 rfl (.ac (.alloc dZ λai aK av aG cr aW=>?_)));have bd:=(bw.cR av aG aW).bO;obtain⟨h4,dx,ds,dd⟩:=bd.ec 0;refine .go 6 rfl (.ac (.aF Jw rfl (Kg (w0:=ai) dx (λb ab=>(ds b ab).2)) ?_));rintro _ a1 ⟨rfl,aA⟩;have aZ:=bd.ext aA;clear dx ds dd;refine .lP (.eq rfl rfl) (by exact decide_eq_false (by simp only[List.length_cons];omega)) ?_;obtain⟨⟨nZ,gL,mA⟩,bb⟩:=aZ.fM 0;obtain⟨nx,a_⟩:=bb.and (i:=0) rfl;change au az F w0 a1 [bk [ax dc [nZ,.map (some gL)] 176,lC k2 172 2 nZ ((a::q).map bc.pl),jl lD lg gL mA],ax aK [ad,ad,ad,ad,ad,aE [],ad,ad,.bool false,ad,aE []] 35] at a_;change jm mA (a::q) at nx;have bl:=(a_.u 0 [1]).bU;have ih:((a::q).map bc.pl).length=q.length+1:=(by simp);refine .go 7 rfl (have f1:=bl.k 1;.a6 x5 xZ f1 ?_);have f2:=bl.Fw (i:=2) rfl;obtain⟨ay,bz,fb,ba,bV,cz,cL⟩:=aq.jG f2 underlying173 j' vk (k:=.i64) (n:=0) (0) aa aV;refine .z (.indexAddr rfl rfl bV) (have YX:ay=a.pl:=(by simpa using ba.symm);.z (.cq j' rfl (λ_ e=>e▸cL) rfl) ?_);refine .ac (.alloc j' λbp bL aP aX eg bQ=>have bD:=(bl.cR aP aX bQ).cQ;have f3:=bD.k 4;.ac (.st j' f3 λbW aY cN=>?_));have bH:=(bD.c8 4 aY cN.c2).cQ;refine .go 6 rfl (have f4:=bH.k 1;.a6 x5 xZ f4 ?_);obtain⟨g1,yj,dr,bC⟩:=bH.Dd (i:=2) rfl;obtain⟨v1,g2,c3,O1,b6⟩:=jx.from (P:=Tryz.prog) yj underlying173 j' vk (k:=.i64) (n:=1) (1) rfl dg;refine .z (.qX rfl rfl rfl rfl c3) ?_;have br:=(bC _ _ _ _ (Mod.refl _ _) O1 (b6.elim .inl λx=>.inr (.inl x))).cQ;clear b6;refine .go 1 rfl (.z (.fieldAddr x5 rfl) ?_);have f5:=br.Fw (i:=2) rfl;obtain⟨bZ,b0,ef⟩:=f5.shape;subst ef;have f6:=br.k 1;refine .ac (.st xZ f6 λcF bt c'=>?_);have bP:=(br.c8 1 bt c'.c2).cQ;refine .ae 2 rfl (eV (λi=>Nat.beq i 6 || Nat.beq i 7) 7 (λan=>dv an dc [(.slice bZ (((a::q).map bc.pl).drop 1).length b0),.map (some gL)] 176/\dv an bL [U ay.1,U ay.2] 172/\kQ lD lg an gL mA) mixed λc9 b9=>have b8:=bP.ext b9;have f7:=b8.k 1;have f8:=b8.k 4;have f9:=b8.mp (i:=3) rfl;⟨⟨f7,f8,f9⟩,?_⟩);refine .gd 2 rfl (.z rfl (.fieldAddr x6 rfl) (.z rfl (.cg x0 rfl (λ_ ao=>(ao.1.cell 1 _ rfl))) ?_));refine .z rfl (.cq j' rfl (λ_ ao=>ao.2.1.row) rfl) (.z rfl (.NN (a:=ay) (val:=lg) w1 underlying174 zeroValue35 rfl rfl (λ_ ao=>ao.2.2) (by rw[YX];exact nx.head)) (.ac rfl (.alloc dZ λdC cE cH bq gY eW=>?_)));have cp:=(b8.cR cH bq eW).n6;have f12:=cp.k 1;have f13:=cp.k 4;have f14:=cp.mp (i:=3) rfl;refine⟨.inr ⟨f12,f13,f14⟩,(have f15:=cp.k 5;.ac rfl (.st dZ f15 λeQ dj gA=>?_))⟩;have cT:=(cp.oJ (cs':=(eC a)) (i:=5) rfl dj gA).n6;refine⟨.inl rfl,.nil (.ae 1 rfl ?_)⟩;refine py.Ap (λi=>Nat.beq i 5) (λi=>Nat.beq i 3 || Nat.beq i 4) 6 (λ_=>True) mixed λfl dp=>have df:=cT.ext dp;⟨trivial,?_⟩
 refine .gd 2 rfl (.ou rfl (.fieldAddr x6 rfl) (have f16:=df.k 1;.mN rfl (.fU x0 f16) ?_));have f17:=df.k 4;refine .mN rfl (.cq j' rfl (λ_ e=>e▸f17.row) rfl) ?_;have f18:=df.mp (i:=3) rfl;refine .ac rfl (.Xn ay w1 underlying174 rfl rfl rfl f18 λfs dM vI pZ=>have dS:=(df.C' (i:=3) rfl dM pZ).n6;⟨.inr trivial,.nil ?_⟩);have f19:=dS.k 5;refine .go 2 rfl (.z (.cq dZ rfl (λ_ e=>e▸f19.row) rfl) ?_);have f20:=dS.k 0;refine .ac (.st dZ f20 λhy eT x7=>?_);have eu:=(dS.oJ (cs':=(eC a)) (i:=0) rfl eT x7).n6;have f21:=eu.k 0;exact .ae 2 rfl (MM func50 rfl rfl dZ f21.row rfl rfl (have ff:=(eu.ty (lC k2 172 2 (.slice bZ (((a::q).map bc.pl).drop 1).length b0) (q.map bc.pl)) 2 rfl (λdV bG=>by simpa using bG)).n6;have eo:=(ff.bz [0,4,5] 1 2 3).bU;have en:=(eo.uk 3 rfl (q:=q) (by rw[YX];exact nx.pop)).bU;en.rt 3 rfl rfl))
theorem alj{w0:World}{F:Nat->Prop}{dc:Nat}(bf:(j2 (R:=az) 176 172 dc []).p F w0)(bs:∀b,F b->b<w0.heap.size):
 bI 50 #[ptr dc 0] w0 (al λaC ai=>aC=.tuple #[lg NQ,.bool false]/\Ext w0 ai):=by
 have cW:=au.fZ w0;refine bR func50 rfl ntmps50 rfl (.go 2 rfl (.ac (.alloc dZ λai aK av aG cr aW=>have a7:=(cW.cR av aG aW).cf;.go 6 rfl (.ac (.aF Jw rfl (Kg (w0:=ai) ((j2 (R:=az) 176 172 dc []).keep bf a7.mod (λ_ _ h=>h) (λ_ h=>h.elim)) (λb ab=>Nat.lt_of_lt_of_le (bs b ab) a7.mod.size)) ?_)))));rintro _ a1 ⟨rfl,aA⟩;have bd:=a7.ext aA;refine .pk (.eq rfl rfl) dw (.go 4 rfl (.z (.build (vs:=#[]) (v:=.agg #[ad,ad,ad,ad,ad,aE [],ad,ad,.bool false,ad,aE []]) rfl (λ_=>by kernel_rfl)) (have f1:=bd.k 0;.ac (.st dZ f1 λbp aP bQ=>?_))));have aZ:=(bd.c8 0 aP bQ.vp).cf;have f2:=aZ.k 0;exact .ae 2 rfl (MM func50 rfl rfl dZ f2.row rfl rfl (al.mk ⟨rfl,aZ.mod⟩))
theorem alk{w0:World}{F:Nat->Prop}{dc:Nat}{q:List bc}(bf:(j2 (R:=az) 176 172 dc q).p F w0)(bs:∀b,F b->b<w0.heap.size)(O0:q.length<=100000):
 bI 49 #[ptr dc 0] w0 (al λaC ai=>(∃g,Acc eC 35 11 ai g aC q/\(g=0\/w0.heap.size<g))/\Ext w0 ai):=by
 obtain⟨⟨mM,iS,m⟩,dH,fe,nq,wB,alf⟩:=bf;have tO:=(nq 0 _ rfl).1;obtain⟨g0,Gb,nv⟩:=nq 1 _ rfl;have Kh:=(nq 2 _ rfl).1;have wV:=Gb.ch.cB (Nat.zero_le _) Gb.lt;have cW:=au.fZ w0;have DI:(q.map bc.pl).length=q.length:=List.length_map ..;change dv w0 dc [mM,.map (some iS)] 176 at tO;change aq k2 w0 (cm w0) mM (q.map bc.pl) at wV;change kQ lD lg w0 iS m at Kh;change jm m q at dH;refine bR func49 rfl ntmps49 rfl (.go 8 rfl (.z (.og underlying93 rfl rfl) (.go 12 rfl (.z (.fieldAddr x5 rfl) (have bV:=tO.row.sub 0 1 dn;.z (.dN xZ bV) (.z (.ct underlying173 (wV) rfl) (have a7:au az az w0 w0 [aS eC 35 11 (.slice none 0 0) []]:=cW.fz (Mod.refl _ _) Acc.nil (.inl rfl);.ae 3 rfl (dW (I:=λm E W=>∃(eO:Value) (l:List bc) (i:Nat),E=[(0,ptr dc 0),(3,eO),(11,mM),(12,U (((q.map bc.pl).length:Nat):Int)),(13,U (i:Int))]/\m=q.length-i/\au az az w0 W [aS eC 35 11 eO l]/\(l=q.take i)/\(l.length=i)) ?_ ?_))))))))
 . refine⟨_,_,⟨(.slice none 0 0:Value),([]:List bc),(0:Nat),rfl,rfl,a7,dw,dw⟩,bm⟩
 . rintro _ _ ai ⟨eO,l,i,rfl,rfl,bw,bj,mm⟩ b5;refine .go 2 rfl (.bg (.lt rfl rfl) (λaG=>?_) λaG=>?_)
   . refine .ae 2 rfl ?_;have f1:=bw.out wV (λ_ _ h=>h);obtain⟨ay,aR,fb,ba,c3,cz,cL⟩:=aq.fG f1 underlying173 j' vk i aV;refine .go 6 rfl (.z (.indexAddr rfl rfl c3) ?_);obtain⟨a,alm,atc,pr⟩:=dH.Cr ba;refine .z (.cq j' rfl (λ_ e=>e▸cL) rfl) ?_;refine .ac (.alloc j' λa1 bz av aL cr aW=>have aZ:=(bw.cR av aL aW).bO;have f2:=aZ.k 1;.ac (.st j' f2 λbp aA bQ=>?_));have bb:=(aZ.c8 1 aA bQ.c2).bO;refine .ae 1 rfl (py.Ap (λi=>Nat.beq i 7 || Nat.beq i 8) (λi=>Nat.beq i 4 || Nat.beq i 5 || Nat.beq i 6) 10 (λ_=>True) mixed λbW aP=>have a_:=bb.ext aP;⟨trivial,?_⟩);refine .gd 3 rfl (.ou rfl (.fieldAddr x6 rfl) (have f3:=tO.row.keep a_.mod (λh=>h);have e3:=f3.sub 1 1 dn;.mN rfl (.cg x0 rfl (λ_ e=>e▸e3)) ?_));have f4:=a_.k 1;refine .mN rfl (.cq j' rfl (λ_ e=>e▸f4.row) rfl) ?_;have f5:=Kh.keep a_.mod (λh=>h);refine .mN rfl (.NN (a:=ay) (val:=lg) w1 underlying174 zeroValue35 rfl rfl (λ_ e=>e▸f5) pr) ?_;refine .ac rfl (.buildSlice [(.agg #[U a.slot,U a.query,U a.shard,U a.seq,U a.fP,aE a.text,U a.k,U a.batch,.bool a.first,U a.after.ck,aE a.after.word]:Value)] underlying39 dZ rfl rfl rfl b2 λcF bL aY aX fA cN=>have dr:=aq.eD (enc:=eC) cN ([a]:List bc) 1 rfl rfl eS;have bM:=(a_.hF aY aX fA dr).cx;⟨.inr trivial,?_⟩);obtain⟨g2,f6,e_,bC⟩:=bM.b4 0;have f7:=bM.gf 2 0;refine .ac rfl (.append f6 underlying39 dZ rfl qE De rfl rfl (f7) ol fD λv1 g1 c9 cc bt b6 g'=>have bD:=(bC _ _ _ _ bt cc b6).cx;⟨.inr trivial,?_⟩);clear b6;exact .gd 1 rfl (.nil (.go 2 rfl (.z (.cd ((i+1:Nat):Int) rfl rfl aa) (have bH:=(bD.dy [0]).cf;.ae 2 rfl ((b5 _ _ _ ⟨(v1:Value),((l++[a]):List bc),(i+1:Nat),rfl,rfl,bH,(by first|exact ai4 bj alm|(exfalso;omega)),ap⟩ aa).sub bm)))))
   refine .ae 9 rfl (aM func49 rfl rfl ?_);obtain⟨ek,aw,aU⟩:=bw.tf (i:=0) rfl;exact al.mk ⟨⟨_,Acc.cast aw (by rw[bj,List.take_of_length_le aa]),aU⟩,bw.mod⟩
theorem aln{w0:World}{F:Nat->Prop}{rh kF ot dc iS:Nat}{mM:Value}(slot query:Int){q:List bc}(p:Int×Int)(bf:(Ji (R:=az) 3 93 176 rh kF ot dc iS mM slot query q).p F w0)(bs:∀b,F b->b<w0.heap.size)(bX:Jh q p):
 bI 98 #[.agg #[U p.1,U p.2],ptr rh 0,ptr kF 0,ptr ot 0] w0 (al λaC ai=>aC=.bool (lN slot query q p).2/\Mod F w0 ai/\∃bu,(Ji (R:=az) 3 93 176 rh kF ot dc iS mM slot query ((lN slot query q p).1)).p bu ai/\∀b,bu b->b<ai.heap.size/\(F b\/w0.heap.size<=b)):=by
 obtain⟨x,ag,Ki,gI⟩:=bX;have qu:=ai1 (slot:=slot) (query:=query) ag Ki gI;have Dt:p.1=x.slot:=(by rw[<-Ki];rfl);have dO:=au.hr (R:=az) bf (λb ab=>⟨bs b ab,id⟩) (λ_ h=>h.elim);have bw:au az F w0 w0 [Ji 3 93 176 rh kF ot dc iS mM slot query q]:=dO;obtain⟨mA,a7⟩:=bw.fM 0;obtain⟨nx,bd⟩:=a7.and (i:=0) rfl;change au az F w0 w0 [bk [ax rh [U slot] 3,ax kF [ptr dc 0] 93,ax ot [U query] 3,ax dc [mM,.map (some iS)] 176,jl lD lg iS mA]] at bd;change jm mA q at nx;have aZ:=(bd.u 0 []).cQ;have pr:gv mA p=some x:=(by rw[<-Ki];exact nx.mem ag);refine bR func98 rfl ntmps98 rfl (.go 2 rfl (.ac (.box [U p.1,U p.2] rfl rfl λai aK av aG cr aW=>have a_:=(aZ.cR av aG aW).n6;.ae 3 rfl (eV (λi=>false) 16 (λan=>Mod (b_ 0) ai an) mixed λa1 aA=>have bl:=a_.ext aA;have lV:Mod (b_ 0) ai a1:=Mod.gj aA;⟨lV,?_⟩))));refine .z rfl (.fieldAddr ajf rfl) (have f1:=a_.k 5;.z rfl (.cg aJ rfl (λ_ ao=>(f1.cell 0 _ rfl).bF ao (Nat.succ_ne_zero _))) (have f2:=a_.k 0;.z rfl (.cg aJ rfl (λ_ ao=>(f2.cell 0 _ rfl).bF ao (Nat.succ_ne_zero _))) (.gl rfl (.eq rfl rfl) (λaL=>?_) λaL=>?_)))
 . refine .gd 1 rfl (have f3:=a_.k 1;.z rfl (.cg vr rfl (λ_ ao=>(f3.cell 0 _ rfl).bF ao (Nat.succ_ne_zero _))) (.gd 1 rfl (.z rfl (.fieldAddr x6 rfl) (have f4:=a_.k 3;.z rfl (.cg x0 rfl (λ_ ao=>(f4.cell 1 _ rfl).bF ao (Nat.succ_ne_zero _))) (.z rfl (.cq j' rfl (λ_ ao=>f1.row.bF ao (Nat.succ_ne_zero _)) rfl) (have f5:=a_.mp (i:=4) rfl;.z rfl (.NN (a:=p) (val:=lg) w1 underlying174 zeroValue35 rfl rfl (λ_ ao=>kQ.keep f5 ao (Nat.succ_ne_zero _)) pr) (.z rfl (.field (v:=(U x.query:Value)) rfl (λ_=>by kernel_rfl)) (have f6:=a_.k 2;.z rfl (.cg aJ rfl (λ_ ao=>(f6.cell 0 _ rfl).bF ao (Nat.succ_ne_zero _))) (.ee rfl (.le rfl rfl) λbz aX=>.gd 2 rfl (.nil ?_))))))))));refine .ae 5 rfl ?_;cases bz
   case true =>
    replace aX:=zj aX;refine .ae 1 rfl (py.Ap (λi=>Nat.beq i 5) (λi=>Nat.beq i 0 || Nat.beq i 3 || Nat.beq i 4) 6 (λ_=>True) mixed λbp aP=>have bM:=bl.ext aP;⟨trivial,?_⟩);have f7:=bM.k 1;refine .mN rfl (.fU vr f7) (.gd 1 rfl (.ou rfl (.fieldAddr x6 rfl) (have f8:=bM.k 3;.mN rfl (.fU x0 f8) (have f9:=bM.k 5;.mN rfl (.cq j' rfl (λ_ e=>e▸f9.row) rfl) ?_))));have f10:=bM.mp (i:=4) rfl;refine .ac rfl (.Xn p w1 underlying174 rfl rfl rfl f10 λbW aY eg bQ=>have bD:=(bM.C' (i:=4) rfl aY bQ).n6;⟨.inr trivial,.nil (.ae 5 rfl (aM func98 rfl rfl ?_))⟩);have Gc:uj slot query x=true:=decide_eq_true aa;rw[Gc] at qu;simp only[if_true,if_false,Bool.false_eq_true] at qu;have bH:=(bD.cE [5] 0 1 2 3 4).bO;have br:=(bH.ty (pD (jm (l' mA p) ((lN slot query q p).1)) (bk [ax rh [U slot] 3,ax kF [ptr dc 0] 93,ax ot [U query] 3,ax dc [mM,.map (some iS)] 176,jl lD lg iS (l' mA p)])) 1 rfl (λdV bG=>⟨(by rw[qu];simp only[<-Ki];exact nx.del (a:=x)),bG⟩)).bO;have bP:=(br.fy (A:=λm:List ((Int×Int)×bc)=>pD (jm m ((lN slot query q p).1)) (bk [ax rh [U slot] 3,ax kF [ptr dc 0] 93,ax ot [U query] 3,ax dc [mM,.map (some iS)] 176,jl lD lg iS m])) (l' mA p) (i:=1) rfl).bO;have b8:=(bP.dy [1]).cf;obtain⟨cA,cU,cV,cM⟩:=b8.fin;exact al.mk ⟨(congrArg Value.bool (by rw[qu])),cA,cU,cV,cM⟩
   replace aX:=zk aX;refine .ae 7 rfl (aM func98 rfl rfl ?_);have Gc:uj slot query x=false:=decide_eq_false aa;rw[Gc] at qu;simp only[if_true,if_false,Bool.false_eq_true] at qu;have bM:=(bl.cE [5] 0 1 2 3 4).bO;have bD:=(bM.ty (pD (jm mA ((lN slot query q p).1)) (bk [ax rh [U slot] 3,ax kF [ptr dc 0] 93,ax ot [U query] 3,ax dc [mM,.map (some iS)] 176,jl lD lg iS mA])) 1 rfl (λdV bG=>⟨(by rw[qu];exact nx),bG⟩)).bO;have bH:=(bD.fy (A:=λm:List ((Int×Int)×bc)=>pD (jm m ((lN slot query q p).1)) (bk [ax rh [U slot] 3,ax kF [ptr dc 0] 93,ax ot [U query] 3,ax dc [mM,.map (some iS)] 176,jl lD lg iS m])) (mA) (i:=1) rfl).bO;have br:=(bH.dy [1]).cf;obtain⟨cA,cU,cV,cM⟩:=br.fin;exact al.mk ⟨(congrArg Value.bool (by rw[qu])),cA,cU,cV,cM⟩
 refine .gd 12 rfl (.nil (.ae 12 rfl (aM func98 rfl rfl ?_)));have Gc:uj slot query x=false:=decide_eq_false aa;rw[Gc] at qu;simp only[if_true,if_false,Bool.false_eq_true] at qu;have bM:=(bl.cE [5] 0 1 2 3 4).bO;have bD:=(bM.ty (pD (jm mA ((lN slot query q p).1)) (bk [ax rh [U slot] 3,ax kF [ptr dc 0] 93,ax ot [U query] 3,ax dc [mM,.map (some iS)] 176,jl lD lg iS mA])) 1 rfl (λdV bG=>⟨(by rw[qu];exact nx),bG⟩)).bO;have bH:=(bD.fy (A:=λm:List ((Int×Int)×bc)=>pD (jm m ((lN slot query q p).1)) (bk [ax rh [U slot] 3,ax kF [ptr dc 0] 93,ax ot [U query] 3,ax dc [mM,.map (some iS)] 176,jl lD lg iS m])) (mA) (i:=1) rfl).bO;have br:=(bH.dy [1]).cf;obtain⟨cA,cU,cV,cM⟩:=br.fin;exact al.mk ⟨(congrArg Value.bool (by rw[qu])),cA,cU,cV,cM⟩
theorem alo(rh kF ot dc iS:Nat)(mM:Value)(slot query:Int):NU Tryz.prog 98 [] [ptr rh 0,ptr kF 0,ptr ot 0] lD (λq=>Ji (R:=az) 3 93 176 rh kF ot dc iS mM slot query q) Jh (lN slot query):=⟨ajt,λs F w x bf bs bX=>aln slot query x bf bs bX⟩
theorem alp{w0:World}{F G:Nat->Prop}{b3:Type}{A:b3->dk az}{kP:FuncId}{first cap:List Value}{ok:b3->(Int×Int)->Prop}{f:b3->(Int×Int)->b3×Bool}{eO:Value}{l:List (Int×Int)}(dB:b3)(aD:NU Tryz.prog kP first cap lD A ok f)(bf:(A dB).p F w0)(bs:∀b,F b->b<w0.heap.size)(bj:aq k2 w0 G eO l)(cb:∀b,G b->¬ F b)(dD:∀b,G b->b<w0.heap.size)(bX:Ba ok f dB l)(mm:l.length<=100000):
 bI 141 #[eO,.func (.func kP) first.toArray cap.toArray] w0 (al λaC ai=>Mod F w0 ai/\((aC=U (-1)/\o6 f dB l=l/\∃bu,(A (kR f dB l)).p bu ai/\∀b,bu b->b<ai.heap.size/\(F b\/w0.heap.size<=b))\/∃k x,aC=U ((k:Nat):Int)/\l[k]?=some x/\vm f dB l k/\(f (kR f dB (l.take k)) x).2=true/\∃bu,(A (kR f dB (l.take (k+1)))).p bu ai/\∀b,bu b->b<ai.heap.size/\(F b\/w0.heap.size<=b))):=by
 have dO:=au.hr (R:=az) bf (λb ab=>⟨bs b ab,id⟩) (λ_ h=>h.elim);have bw:au az F w0 w0 [A dB]:=dO;refine bR Tryz.func141 rfl Tryz.ntmps141 rfl (.go 8 rfl (.z (.ct Tryz.underlying173 (bj) rfl) (.ae 3 rfl (dW (I:=λm E W=>∃(k:Nat),E=[(0,eO),(1,.func (.func kP) first.toArray cap.toArray),(7,U (((l.length:Nat):Int))),(8,U (((k:Nat):Int)))]/\m=l.length-k/\au az F w0 W [A (kR f dB (l.take k))]/\(vm f dB l k)) ?_ ?_))))
 . refine⟨_,_,⟨(0:Nat),rfl,rfl,bw,(by exact vm.start f dB l)⟩,⟨rfl,rfl,rfl,rfl,trivial⟩⟩
 . rintro _ _ ai ⟨k,rfl,rfl,a7,DK⟩ b5;refine .go 2 rfl (.bg (.lt rfl rfl) (λaG=>?_) λaG=>?_)
   . refine .ae 2 rfl ?_;have f1:=a7.out bj cb;obtain⟨ay,aR,fb,ba,bV,cz,cL⟩:=aq.fG f1 Tryz.underlying173 j' vk k aV;refine .go 14 rfl (.z (.indexAddr rfl rfl bV) (.z (.cq j' rfl (λ_ e=>e▸cL) rfl) ?_));obtain⟨h4,dx,ds,dd⟩:=a7.ec 0;refine .ac (.call (first:=first) (cap:=cap) (vs:=[lD ay]) aD.cl rfl rfl (aD.call _ _ _ _ dx (λb ab=>(ds b ab).2) (bX.get ba)) ?_);rintro _ a1 ⟨rfl,av,fq,gV,d_⟩;have bd:=(dd _ _ _ av gV d_).cf;clear dx ds dd gV d_;generalize aL:(f ((kR f dB (l.take k))) ay).2=bz;replace aL:=aL.symm;refine .ae 1 rfl ?_;cases bz
     case true =>
      replace aL:=aL.symm;refine .ae 6 rfl (aM Tryz.func141 rfl rfl ?_);have aZ:=(bd.ty (A (kR f dB (l.take (k+1)))) 0 rfl (λdV bG=>(by rw[Jf ba];exact bG))).cf;obtain⟨cA,cU,cV,cM⟩:=aZ.fin;exact al.mk ⟨cA,.inr ⟨k,_,rfl,ba,DK,(by assumption),cU,cV,cM⟩⟩
     replace aL:=aL.symm;have aZ:=(bd.ty (A (kR f dB (l.take (k+1)))) 0 rfl (λdV bG=>(by rw[Jf ba];exact bG))).cf;exact .go 4 rfl (.z (.cd (((k+1:Nat):Int)) rfl rfl (by omega)) (.ae 2 rfl ((b5 _ _ _ ⟨(k+1:Nat),rfl,rfl,aZ,(by first|exact DK.next ba (by assumption)|(exfalso;omega))⟩ (by omega)).sub ⟨rfl,rfl,rfl,rfl,trivial⟩)))
   refine .ae 8 rfl (aM Tryz.func141 rfl rfl ?_);have bd:=(a7.ty (A (kR f dB l)) 0 rfl (λdV bG=>(by rw[List.take_of_length_le (by omega)] at bG;exact bG))).cf;obtain⟨cA,cU,cV,cM⟩:=bd.fin;exact al.mk ⟨cA,.inl ⟨rfl,DK.all (by omega),cU,cV,cM⟩⟩
theorem YY{p:Prop}(h:p:=by first|exact w2.off (w2.at ba) bh|exact w2.on (w2.at ba) bh|(exfalso;omega)):p:=h
theorem alq{w0:World}{F:Nat->Prop}{b3:Type}{A:b3->dk az}{kP:FuncId}{first cap:List Value}{ok:b3->(Int×Int)->Prop}{f:b3->(Int×Int)->b3×Bool}{eO:Value}{l:List (Int×Int)}(dB:b3)(aD:NU Tryz.prog kP first cap lD A ok f)(bf:(bk (R:=az) [A dB,lC k2 172 2 eO l]).p F w0)(bs:∀b,F b->b<w0.heap.size)(bX:Ba ok f dB l)(mm:l.length<=100000):
 bI 97 #[eO,.func (.func kP) first.toArray cap.toArray] w0 (al λaC ai=>Mod F w0 ai/\∃bu,(bk (R:=az) [A ((kR f dB l)),lC k2 172 2 aC ((o6 f dB l))]).p bu ai/\∀b,bu b->b<ai.heap.size/\(F b\/w0.heap.size<=b)):=by
 have dO:=au.hr (R:=az) bf (λb ab=>⟨bs b ab,id⟩) (λ_ h=>h.elim);have bw:au az F w0 w0 [bk [A dB,lC k2 172 2 eO l]]:=dO;have a7:=(bw.u 0 []).bO;refine bR Tryz.func97 rfl Tryz.ntmps97 rfl ?_;obtain⟨h4,atd,dx,alr,Kj,ds,als,dd⟩:=a7.CE (i:=0) (j:=1) rfl rfl (by decide);refine .go 8 rfl (.ac (.aF ajD rfl (alp (first:=first) (cap:=cap) dB aD dx (λb ab=>(ds b ab).2) (aiP alr) Kj als bX mm) ?_));rintro ate ai ⟨av,bV⟩;rcases bV with ⟨rfl,mO,alu,gm,O2⟩|⟨k,atf,rfl,Bu,DK,alv,alu,gm,O2⟩
 . skip
   have bd:au az F w0 ai [A (kR f dB l),lC k2 172 2 eO l]:=dd _ _ _ av gm O2;refine .go 6 rfl (.ee (.eq rfl rfl) λaK aG=>?_);obtain rfl:aK=true:=aG.trans (by rfl);refine .ae 7 rfl (aM Tryz.func97 rfl rfl ?_);have aZ:=(bd.ty (lC k2 172 2 eO ((o6 f dB l))) 1 rfl (λdV bG=>(by rw[mO];exact bG))).bO;have bb:=(aZ.aR [] 0 1).cf;obtain⟨cA,cU,cV,cM⟩:=bb.fin;exact al.mk ⟨cA,cU,cV,cM⟩
 . skip
   have bd:au az F w0 ai [A (kR f dB (l.take (k+1))),lC k2 172 2 eO l]:=dd _ _ _ av gm O2;have atg:=(List.getElem?_eq_some_iff.1 Bu).1;refine .go 6 rfl (.lP (.eq rfl rfl) (by exact decide_eq_false (by omega)) (.go 7 rfl ?_));refine .z (.cd (((k+1:Nat):Int)) rfl rfl (by omega)) (have bb:=(bd.dy [1,0]).bO;.ae 3 rfl (dW (I:=λm E W=>∃(i:Nat) (j:Nat) (cur:List (Int×Int)),E=[(0,eO),(1,.func (.func kP) first.toArray cap.toArray),(5,U (((i:Nat):Int))),(6,U (((j:Nat):Int)))]/\m=l.length-j/\au az F w0 W [lC k2 172 2 eO cur,A (kR f dB (l.take j))]/\(sA f dB l cur i j)/\(j<=l.length)) ?_ ?_))
   . refine⟨_,_,⟨(k:Nat),(k+1:Nat),(l:List (Int×Int)),rfl,rfl,bb,(by exact sA.start DK Bu alv),(by omega)⟩,⟨rfl,rfl,rfl,rfl,trivial⟩⟩
   . rintro _ _ a1 ⟨i,j,cur,rfl,rfl,aZ,w2,J9⟩ b5;have hM:=w2.len;have mY:=w2.Fy;have f1:=aZ.Fw (i:=0) rfl;refine .go 5 rfl (.z (.ct Tryz.underlying173 (f1) rfl) (.bg (.lt rfl rfl) (λaL=>?_) λaL=>?_))
     . refine .ae 1 rfl ?_;obtain⟨ay,bz,fb,ba,c3,cz,cL⟩:=aq.fG f1 Tryz.underlying173 j' vk j aV;refine .go 8 rfl (.z (.indexAddr rfl rfl c3) (.z (.cq j' rfl (λ_ e=>e▸cL) rfl) ?_));refine .ac (.alloc j' λbp bL aA aX cr aW=>have bl:=(aZ.cR aA aX aW).cx;have f2:=bl.k 2;.ac (.st j' f2 λbW aP bQ=>?_));have bM:=(bl.c8 2 aP bQ.c2).cx;have f3:=bM.k 2;refine .go 4 rfl (.z (.cq j' rfl (λ_ e=>e▸f3.row) rfl) ?_);obtain⟨qL,jj,hz,hV⟩:=bM.ec 1;refine .ac (.call (first:=first) (cap:=cap) (vs:=[lD ay]) aD.cl rfl rfl (aD.call _ _ _ _ jj (λb ab=>(hz b ab).2) (bX.get (w2.at ba))) ?_);rintro _ cF ⟨rfl,aY,fq,gV,d_⟩;have bD:=(hV _ _ _ aY gV d_).cx;clear jj hz hV gV d_;generalize bq:(f ((kR f dB (l.take j))) ay).2=cE;replace bq:=bq.symm;cases cE
       case true =>
        replace bq:=bq.symm;refine .z (.not rfl) (have bH:=(bD.ty (A (kR f dB (l.take (j+1)))) 1 rfl (λdV bG=>(by rw[Jf (w2.at ba)];exact bG))).cx;.go 6 rfl (.z (.cd (((j+1:Nat):Int)) rfl rfl (by omega)) ?_));have br:=(bH.dy [0,1]).bO;exact .ae 2 rfl ((b5 _ _ _ ⟨(i:Nat),(j+1:Nat),(cur:List (Int×Int)),rfl,rfl,br,YY,(by first|omega|(exfalso;omega))⟩ (by omega)).sub ⟨rfl,rfl,rfl,rfl,trivial⟩)
       replace bq:=bq.symm;refine .z (.not rfl) (have f4:=bD.k 2;.go 6 rfl (.z (.cq j' rfl (λ_ e=>e▸f4.row) rfl) ?_));obtain⟨g1,yj,dr,bC⟩:=bD.Dd (i:=0) rfl;obtain⟨de,ath,ati,e3,alw,O3,atj,alx⟩:=jx.at (P:=Tryz.prog) yj Tryz.underlying173 j' vk (k:=.i64) (n:=((i:Nat):Int)) (i) rfl (by omega);refine .z (.indexAddr rfl rfl e3) (.ac (.aiN yj O3 alx vk NR ay j' rfl rfl rfl λc9 bt fA cc=>have bH:=(bC _ _ _ _ bt cc (.inl rfl)).cx;.go 3 rfl ?_));refine .z (.cd (((i+1:Nat):Int)) rfl rfl (by omega)) (have br:=(bH.ty (A (kR f dB (l.take (j+1)))) 1 rfl (λdV bG=>(by rw[Jf (w2.at ba)];exact bG))).cx;.go 5 rfl (.z (.cd (((j+1:Nat):Int)) rfl rfl (by omega)) ?_));have bP:=(br.dy [0,1]).bO;exact .ae 2 rfl ((b5 _ _ _ ⟨(i+1:Nat),(j+1:Nat),((cur.set i ay):List (Int×Int)),rfl,rfl,bP,YY,(by first|omega|(exfalso;omega))⟩ (by omega)).sub ⟨rfl,rfl,rfl,rfl,trivial⟩)
     refine .ae 1 rfl ?_;obtain⟨g1,yj,cz,bC⟩:=aZ.Dd (i:=0) rfl;obtain⟨v1,g2,c3,O1,b6⟩:=jx.from (P:=Tryz.prog) yj Tryz.underlying173 j' vk (k:=.i64) (n:=((i:Nat):Int)) (i) rfl (by omega);refine .go 6 rfl (.z (.qX rfl rfl rfl rfl c3) ?_);clear O1 b6;refine .ac (.aiO yj Tryz.underlying173 j' vk NR (by decide) (k:=.i64) (n:=((i:Nat):Int)) (i:=i) rfl (by omega) c3 ((0,0):Int×Int) Tryz.zeroValue172 rfl rfl λbp aA cr cc=>?_);have a_:=(bC _ _ _ _ aA cc (.inl rfl)).bO;obtain⟨g3,aly,dr,cy⟩:=a_.Dd (i:=0) rfl;obtain⟨v2,e3,alz⟩:=jx.upto (P:=Tryz.prog) aly Tryz.underlying173 j' vk (k:=.i64) (n:=((i:Nat):Int)) (i) rfl (by simp only[List.length_append,List.length_take,List.length_replicate];omega);refine .go 5 rfl (.z (.qX rfl rfl rfl rfl e3) (have bl:=(cy _ _ _ _ (Mod.refl _ _) alz (.inl rfl)).bO;.ae 2 rfl ?_));refine aM Tryz.func97 rfl rfl ?_;have bM:=(bl.ty (A (kR f dB l)) 1 rfl (λdV bG=>(by rw[List.take_of_length_le (by omega)] at bG;exact bG))).bO;have alA:((cur.take i++List.replicate (cur.length-i) ((0,0):Int×Int)).take i)=o6 f dB l:=(by rw[List.take_append_of_le_length (by rw[List.length_take];omega),List.take_take,Nat.min_self];exact w2.fin (by omega));have bD:=(bM.ty (lC k2 172 2 v2 ((o6 f dB l))) 0 rfl (λdV bG=>(by rw[<-alA];exact bG))).bO;have bH:=(bD.aR [] 1 0).cf;obtain⟨cA,cU,cV,cM⟩:=bH.fin;exact al.mk ⟨cA,cU,cV,cM⟩
theorem alB{w0:World}{F:Nat->Prop}{dc:Nat}{q:List bc}(slot query:Int)(bf:(j2 (R:=az) 176 172 dc q).p F w0)(bs:∀b,F b->b<w0.heap.size)(O0:q.length<=100000):
 bI 48 #[ptr dc 0,U slot,U query] w0 (al λaC ai=>aC=U ((q.length:Int)-((lj q slot query).length:Int))/\Mod F w0 ai/\∃bu,(j2 (R:=az) 176 172 dc (lj q slot query)).p bu ai/\∀b,bu b->b<ai.heap.size/\(F b\/w0.heap.size<=b)):=by
 have dO:=au.hr (R:=az) bf (λb ab=>⟨bs b ab,id⟩) (λ_ h=>h.elim);have bw:au az F w0 w0 [j2 176 172 dc q]:=dO;have hT:=ai3 q slot query;refine bR func48 rfl ntmps48 rfl (.go 2 rfl (.ac (.box [ptr dc 0] rfl rfl λai aK av aG cr aW=>have bd:=(bw.cR av aG aW).bO;.ac (.box [U slot] rfl rfl λa1 aR aA aL eg bQ=>have bb:=(bd.cR aA aL bQ).cx;.ac (.box [U query] rfl rfl λbp bz aP aX fA cN=>have bl:=(bb.cR aP aX cN).bU;have f1:=bl.k 1;.go 4 rfl (.z (.fU vr f1) ?_))))));obtain⟨h4,dx,ds,dd⟩:=bl.ec 0;refine .ac (.aF Jw rfl (Kg (w0:=bp) dx (λb ab=>(ds b ab).2)) ?_);rintro _ bW ⟨rfl,aY⟩;have bM:=bl.ext aY;clear dx ds dd;refine .go 6 rfl (.gl (.eq rfl rfl) (λbq=>?_) λbq=>?_)
 . refine .ae 6 rfl (aM func48 rfl rfl ?_);have bD:=(bM.dy [0]).cf;have M_:q=[]:=List.eq_nil_of_length_eq_zero aa;subst M_;obtain⟨cA,cU,cV,cM⟩:=bD.fin;exact al.mk ⟨rfl,cA,cU,cV,cM⟩
 refine .ae 1 rfl ?_;obtain⟨⟨nZ,gL,mA⟩,bD⟩:=bM.fM 0;obtain⟨nx,bH⟩:=bD.and (i:=0) rfl;change au az F w0 bW [bk [ax dc [nZ,.map (some gL)] 176,lC k2 172 2 nZ (q.map bc.pl),jl lD lg gL mA],ax aK [ptr dc 0] 93,ax aR [U slot] 3,ax bz [U query] 3] at bH;change jm mA q at nx;have br:=(bH.u 0 [1,2,3]).n6;refine .ae 3 rfl (eV (λi=>Nat.beq i 6 || Nat.beq i 9) 9 (λan=>dv an aK [ptr dc 0] 93/\dv an dc [nZ,.map (some gL)] 176) mixed λcF bt=>have bP:=br.ext bt;have f2:=bP.k 0;have f3:=bP.k 3;⟨⟨f2,f3⟩,?_⟩);refine .z rfl (.cg vr rfl (λ_ ao=>(ao.1.cell 0 _ rfl))) (.z rfl (.cg vr rfl (λ_ ao=>(ao.1.cell 0 _ rfl))) (.gd 1 rfl (.z rfl (.fieldAddr x5 rfl) (.z rfl (.cg xZ rfl (λ_ ao=>(ao.2.cell 0 _ rfl))) (.z rfl (.makeFunc (first:=[]) (cap:=[ptr aR 0,ptr aK 0,ptr bz 0]) rfl rfl) ?_)))));have b8:=(bP.cE [4] 1 0 2 3 5).bO;have bT:=(b8.ty (pD (jm mA q) (bk [ax aR [U slot] 3,ax aK [ptr dc 0] 93,ax bz [U query] 3,ax dc [nZ,.map (some gL)] 176,jl lD lg gL mA])) 1 rfl (λdV bG=>⟨nx,bG⟩)).bO;have cp:=(bT.fy (A:=λm:List ((Int×Int)×bc)=>pD (jm m q) (bk [ax aR [U slot] 3,ax aK [ptr dc 0] 93,ax bz [U query] 3,ax dc [nZ,.map (some gL)] 176,jl lD lg gL m])) (mA) (i:=1) rfl).bO;have cT:=(cp.aR [] 1 0).cf;have fV:=NT slot query q [] (by simpa using nx.vl) dg;simp only[List.nil_append] at fV;obtain⟨qL,jj,hz,hV⟩:=cT.ec 0;refine .ac rfl (.aF ajs rfl (alq (first:=[]) (cap:=[ptr aR 0,ptr aK 0,ptr bz 0]) q (alo aR aK bz dc gL nZ slot query) jj (λb ab=>(hz b ab).2) fV.1 (by rw[List.length_map];omega)) ?_);rintro YZ c9 ⟨b9,fq,fc,d_⟩;rw[fV.2.1,fV.2.2] at fc;have df:=(hV _ _ _ b9 fc d_).cf;clear jj hz hV d_;have dS:=(df.u 0 []).bO;obtain⟨Y0,eu⟩:=dS.fM 0;obtain⟨zD,ff⟩:=eu.and (i:=0) rfl;change au az F w0 c9 [bk [ax aR [U slot] 3,ax aK [ptr dc 0] 93,ax bz [U query] 3,ax dc [nZ,.map (some gL)] 176,jl lD lg gL Y0],lC k2 172 2 YZ ((lj q slot query).map bc.pl)] at ff;change jm Y0 (lj q slot query) at zD;have eo:=(ff.u 0 [1]).n6;have f6:=eo.k 2;have f7:=eo.k 4;refine⟨.inr ⟨f6,f7⟩,.gd 1 rfl (.z rfl (.fieldAddr x5 rfl) ?_)⟩;have f8:=eo.Fw (i:=0) rfl;obtain⟨bZ,b0,ef⟩:=f8.shape;subst ef;refine .ac rfl (.st xZ f7 λdC cH c'=>?_);have en:=(eo.c8 4 cH c'.c2).n6;refine⟨.inl rfl,.nil (have f':=(en.bz [1,2,3] 4 0 5).bU;have fi:=(f'.uk 3 rfl (q:=(lj q slot query)) zD).bU;have f9:=fi.k 1;.go 3 rfl (.z (.fU vr f9) ?_))⟩;obtain⟨DD,qM,ps,qj⟩:=fi.ec 3;refine .ac (.aF Jw rfl (Kg (w0:=dC) qM (λb ab=>(ps b ab).2)) ?_);rintro _ eQ ⟨rfl,dj⟩;have gG:=fi.ext dj;clear qM ps qj;refine .z (.hY ((q.length:Int)-(((lj q slot query).length:Nat):Int)) rfl rfl aa) (.ae 2 rfl (aM func48 rfl rfl ?_));have gz:=(gG.dy [3]).cf;obtain⟨cA,cU,cV,cM⟩:=gz.fin;exact al.mk ⟨(cS aa),cA,cU,cV,cM⟩
end Go.Proofs
namespace Go.Proofs
open Tryz
open Go.aH Go.ak
theorem O4{p:Prop}(h:p:=by first|exact XC ba aa|exact XD fW aa|(exfalso;omega)):p:=h
theorem Y1{w0:World}{Bv:Value}{ns:List Int}(DL:aq aH.encI w0 (cm w0) Bv ns):
 bI 82 #[Bv] w0 (al λaC ai=>(∃cu:Bool,cu=(vn ns)/\aC=.bool cu)/\Ext w0 ai):=by
 have alC:=DL.le;have cW:=au.fZ w0;refine bR func82 rfl ntmps82 rfl (.go 8 rfl (.z (.ct underlying57 (DL) rfl) (.ae 3 rfl (dW (I:=λm E W=>∃(i:Nat),E=[(5,Bv),(6,U (ns.length:Int)),(7,U (i:Int))]/\m=ns.length-i/\au az az w0 W []/\(∀z∈ns.take i,0<=z/\z<=2147483647)) ?_ ?_))))
 . refine⟨_,_,⟨(0:Nat),rfl,rfl,cW,DM⟩,bm⟩
 . rintro _ _ ai ⟨i,rfl,rfl,bw,fW⟩ b5;refine .go 2 rfl (.bg (.lt rfl rfl) (λaG=>?_) λaG=>?_)
   . refine .ae 2 rfl ?_;have f1:=bw.out DL (λ_ _ h=>h);obtain⟨ay,aR,fb,ba,bV,cz,cL⟩:=aq.fG f1 underlying57 aJ aH.gH i aV;refine .go 6 rfl (.z (.indexAddr rfl rfl bV) (.z (.dN aJ cL) (.go 5 rfl (.bg (.lt rfl rfl) (λaL=>?_) λaL=>?_))))
     . exact .ae 10 rfl (aM func82 rfl rfl (al.mk ⟨⟨_,O4,rfl⟩,bw.mod⟩))
     refine .go 2 rfl (.bg (.gt rfl rfl) (λaX=>?_) λaX=>?_)
     . exact .ae 7 rfl (aM func82 rfl rfl (al.mk ⟨⟨_,O4,rfl⟩,bw.mod⟩))
     exact .go 6 rfl (.z (.cd ((i+1:Nat):Int) rfl rfl aa) (.ae 2 rfl ((b5 _ _ _ ⟨(i+1:Nat),rfl,rfl,bw,(by first|exact XE fW ba aa|(exfalso;omega))⟩ aa).sub bm)))
   exact .ae 8 rfl (aM func82 rfl rfl (al.mk ⟨⟨_,O4,rfl⟩,bw.mod⟩))
theorem O5{p:Prop}(h:p:=by first|exact XF aa|exact XG aa bh|(exfalso;omega)):p:=h
theorem alD{w0:World}{x:b1}(Kk:x.word.length<=1000000):
 bI 125 #[.agg #[U x.ck,aE x.word]] w0 (al λaC ai=>(∃cu:Bool,cu=(zh x)/\aC=.bool cu)/\Ext w0 ai):=by
 have cW:=au.fZ w0;refine bR func125 rfl ntmps125 rfl (.go 2 rfl (.ac (.box [U x.ck,aE x.word] rfl rfl λai aK av aG cr aW=>have a7:=(cW.cR av aG aW).cf;.go 4 rfl (have f1:=a7.k 0;.a6 x3 aJ f1 (.bg (.ge rfl rfl) (λaL=>?_) λaL=>?_)))))
 . refine .go 1 rfl (.a6 x3 aJ f1 (.bg (.le rfl rfl) (λaX=>?_) λaX=>?_))
   . refine .go 2 rfl (.a6 zm dP f1 (.ac (.aF N6 rfl (Oe (w0:=ai)  x.word aV) ?_)));rintro _ a1 ⟨⟨bL,bq,rfl⟩,aA⟩;have bd:=a7.ext aA;exact .ae 3 rfl (aM func125 rfl rfl (al.mk ⟨⟨_,O5,rfl⟩,bd.mod⟩))
   exact .ae 8 rfl (aM func125 rfl rfl (al.mk ⟨⟨_,O5,rfl⟩,a7.mod⟩))
 exact .ae 12 rfl (aM func125 rfl rfl (al.mk ⟨⟨_,O5,rfl⟩,a7.mod⟩))
theorem Kl{p:Prop}(h:p:=by first|exact ai6 aa|exact ai5 bh aa|(exfalso;omega)):p:=h
theorem Y2{w0:World}(slot:Int)(shard:Int)(atk:bY slot)(zq:bY shard):
 bI 85 #[U slot,U shard] w0 (al λaC ai=>(∃cu:Bool,cu=(tp slot shard)/\aC=.bool cu)/\Ext w0 ai):=by
 have cW:=au.fZ w0;refine bR func85 rfl ntmps85 rfl (.go 7 rfl (.bg (.ge rfl rfl) (λaG=>?_) λaG=>?_))
 . refine .go 2 rfl (.bg (.lt rfl rfl) (λaL=>?_) λaL=>?_)
   . refine .go 3 rfl (.bg (.ge rfl rfl) (λaX=>?_) λaX=>?_)
     . exact .go 3 rfl (.ee (.lt rfl rfl) λbL bq=>.ae 3 rfl (aM func85 rfl rfl (al.mk ⟨⟨_,Kl,rfl⟩,cW.mod⟩)))
     exact .ae 7 rfl (aM func85 rfl rfl (al.mk ⟨⟨_,Kl,rfl⟩,cW.mod⟩))
   exact .ae 11 rfl (aM func85 rfl rfl (al.mk ⟨⟨_,Kl,rfl⟩,cW.mod⟩))
 exact .ae 14 rfl (aM func85 rfl rfl (al.mk ⟨⟨_,Kl,rfl⟩,cW.mod⟩))
theorem rq{p:Prop}(h:p:=by first|exact ai7 bh|exact ai8 bh|exact ai9 bh|exact ai_ bh|exact ai' aa|exact aja bh bh bh bh aa bh|(exfalso;omega)):p:=h
theorem Km{p:Prop}(h:p:=by assumption):p:=h
theorem alE{w0:World}{m:bc}(w3:bc.Ok m)(Gd:m.text.length<=1000000)(w4:m.after.word.length<=1000000):
 bI 83 #[.agg #[U m.slot,U m.query,U m.shard,U m.seq,U m.fP,aE m.text,U m.k,U m.batch,.bool m.first,U m.after.ck,aE m.after.word]] w0 (al λaC ai=>(∃cu:Bool,cu=(nS m)/\aC=.bool cu)/\Ext w0 ai):=by
 have vM:=w3.slot;have Bt:=w3.shard;have O6:=w3.k;have O7:=w3.batch;have cW:=au.fZ w0;refine bR func83 rfl ntmps83 rfl (.go 2 rfl (.ac (.box (eC m) rfl rfl λai aK av aG cr aW=>?_)));have a7:=(cW.cR av aG aW).cf;refine .go 4 rfl (.z (.fieldAddr zo rfl) (have f1:=a7.k 0;.z (.cq gx rfl (λ_ e=>e▸(f1.part 9 2 dn)) rfl) ?_));refine .ac (.aF ajy rfl (alD (w0:=ai) (x:=m.after)  aV) ?_);rintro _ a1 ⟨⟨aR,aL,rfl⟩,aA⟩;have bd:=a7.ext aA;refine .go 5 rfl (have f2:=bd.k 0;.a6 Jt fh f2 ?_);generalize aX:m.first=O8;replace aX:=aX.symm;refine .ae 1 rfl ?_;cases O8
 case true =>
  replace aX:=aX.symm;refine .go 2 rfl (.z (.fieldAddr zo rfl) (.z (.cq gx rfl (λ_ e=>e▸(f2.part 9 2 dn)) rfl) ?_));refine .z (.build (vs:=#[]) (v:=.agg #[ad,aE []]) rfl (λ_=>by kernel_rfl)) (.ee (.Cz cY (N3 m.after (b1.mk 0 [])) rfl rfl) λbz bq=>have cG:bz=wI m:=(by first|exact NW Km bq|exact NX Km bq);.go 6 rfl ?_);cases bz
  case true =>
   replace cG:=cG.symm;refine .a6 ts aJ f2 (.a6 qG aJ f2 (.ac (.aF X4 rfl (Y2 (w0:=a1)  (m.slot) (m.shard) cP cP) ?_)));rintro _ bp ⟨⟨bL,cv,rfl⟩,aP⟩;have aZ:=bd.ext aP;refine .go 2 rfl ?_;cases bL
   case true =>
    replace cv:=cv.symm;have f3:=aZ.k 0;refine .a6 sF aJ f3 (.a6 x4 aJ f3 (.a6 zn aJ f3 ?_));refine .ac (.buildSlice [(U m.query:Value),(U m.seq:Value),(U m.fP:Value)] underlying57 aJ rfl rfl rfl b2 λbW cE aY du eg bQ=>have cz:=aq.eD (enc:=aH.encI) bQ ([m.query,m.seq,m.fP]:List Int) 3 rfl rfl eS;have a_:=(aZ.hF aY du eg cz).bO;have f4:=a_.gf 1 0;.ac (.aF X3 rfl (Y1 (w0:=bW) (ns:=[m.query,m.seq,m.fP])  f4) ?_));rintro _ cF ⟨⟨de,dz,rfl⟩,bt⟩;have bl:=a_.ext bt;refine .go 2 rfl ?_;cases de
    case true =>
     replace dz:=dz.symm;have f5:=bl.k 0;refine .a6 Bd dP f5 (.ac (.aF N9 rfl (Of (w0:=cF)  m.text aV) ?_));rintro _ c9 ⟨⟨gX,e5,rfl⟩,b9⟩;have bM:=bl.ext b9;refine .go 2 rfl ?_;cases gX
     case true =>
      replace e5:=e5.symm;have f6:=bM.k 0;refine .a6 Be aJ f6 (.bg (.ge rfl rfl) (λgS=>?_) λgS=>?_)
      . refine .go 2 rfl (.a6 Be aJ f6 (.bg (.le rfl rfl) (λnt=>?_) λnt=>?_))
        . refine .go 2 rfl (.a6 Bf aJ f6 (.bg (.ge rfl rfl) (λoT=>?_) λoT=>?_))
          . refine .go 2 rfl (.a6 Bf aJ f6 (.ee (.le rfl rfl) λox FR=>?_));exact .ae 3 rfl (aM func83 rfl rfl (al.mk ⟨⟨_,rq,rfl⟩,bM.mod⟩))
          exact .ae 8 rfl (aM func83 rfl rfl (al.mk ⟨⟨_,rq,rfl⟩,bM.mod⟩))
        exact .ae 13 rfl (aM func83 rfl rfl (al.mk ⟨⟨_,rq,rfl⟩,bM.mod⟩))
      exact .ae 18 rfl (aM func83 rfl rfl (al.mk ⟨⟨_,rq,rfl⟩,bM.mod⟩))
     replace e5:=e5.symm;exact .ae 21 rfl (aM func83 rfl rfl (al.mk ⟨⟨_,rq,rfl⟩,bM.mod⟩))
    replace dz:=dz.symm;exact .ae 26 rfl (aM func83 rfl rfl (al.mk ⟨⟨_,rq,rfl⟩,bl.mod⟩))
   replace cv:=cv.symm;exact .ae 36 rfl (aM func83 rfl rfl (al.mk ⟨⟨_,rq,rfl⟩,aZ.mod⟩))
  replace cG:=cG.symm;exact .ae 43 rfl (aM func83 rfl rfl (al.mk ⟨⟨_,rq,rfl⟩,bd.mod⟩))
 replace aX:=aX.symm;have bq:aR=wI m:=(by first|exact NW Km aL|exact NX Km aL);refine .go 6 rfl ?_;cases aR
 case true =>
  replace bq:=bq.symm;refine .a6 ts aJ f2 (.a6 qG aJ f2 (.ac (.aF X4 rfl (Y2 (w0:=a1)  (m.slot) (m.shard) cP cP) ?_)));rintro _ bp ⟨⟨bz,cG,rfl⟩,aP⟩;have aZ:=bd.ext aP;refine .go 2 rfl ?_;cases bz
  case true =>
   replace cG:=cG.symm;have f3:=aZ.k 0;refine .a6 sF aJ f3 (.a6 x4 aJ f3 (.a6 zn aJ f3 ?_));refine .ac (.buildSlice [(U m.query:Value),(U m.seq:Value),(U m.fP:Value)] underlying57 aJ rfl rfl rfl b2 λbW bL aY cv eg bQ=>have cz:=aq.eD (enc:=aH.encI) bQ ([m.query,m.seq,m.fP]:List Int) 3 rfl rfl eS;have a_:=(aZ.hF aY cv eg cz).bO;have f4:=a_.gf 1 0;.ac (.aF X3 rfl (Y1 (w0:=bW) (ns:=[m.query,m.seq,m.fP])  f4) ?_));rintro _ cF ⟨⟨cE,du,rfl⟩,bt⟩;have bl:=a_.ext bt;refine .go 2 rfl ?_;cases cE
   case true =>
    replace du:=du.symm;have f5:=bl.k 0;refine .a6 Bd dP f5 (.ac (.aF N9 rfl (Of (w0:=cF)  m.text aV) ?_));rintro _ c9 ⟨⟨de,dz,rfl⟩,b9⟩;have bM:=bl.ext b9;refine .go 2 rfl ?_;cases de
    case true =>
     replace dz:=dz.symm;have f6:=bM.k 0;refine .a6 Be aJ f6 (.bg (.ge rfl rfl) (λe5=>?_) λe5=>?_)
     . refine .go 2 rfl (.a6 Be aJ f6 (.bg (.le rfl rfl) (λgS=>?_) λgS=>?_))
       . refine .go 2 rfl (.a6 Bf aJ f6 (.bg (.ge rfl rfl) (λnt=>?_) λnt=>?_))
         . refine .go 2 rfl (.a6 Bf aJ f6 (.ee (.le rfl rfl) λk3 oT=>?_));exact .ae 3 rfl (aM func83 rfl rfl (al.mk ⟨⟨_,rq,rfl⟩,bM.mod⟩))
         exact .ae 8 rfl (aM func83 rfl rfl (al.mk ⟨⟨_,rq,rfl⟩,bM.mod⟩))
       exact .ae 13 rfl (aM func83 rfl rfl (al.mk ⟨⟨_,rq,rfl⟩,bM.mod⟩))
     exact .ae 18 rfl (aM func83 rfl rfl (al.mk ⟨⟨_,rq,rfl⟩,bM.mod⟩))
    replace dz:=dz.symm;exact .ae 21 rfl (aM func83 rfl rfl (al.mk ⟨⟨_,rq,rfl⟩,bM.mod⟩))
   replace du:=du.symm;exact .ae 26 rfl (aM func83 rfl rfl (al.mk ⟨⟨_,rq,rfl⟩,bl.mod⟩))
  replace cG:=cG.symm;exact .ae 36 rfl (aM func83 rfl rfl (al.mk ⟨⟨_,rq,rfl⟩,aZ.mod⟩))
 replace bq:=bq.symm;exact .ae 43 rfl (aM func83 rfl rfl (al.mk ⟨⟨_,rq,rfl⟩,bd.mod⟩))
end Go.Proofs
namespace Go.Proofs
open Tryz
open Go.aH Go.ak
theorem O9{w0:World}(k:Int)(yk:bY k)(hk:0<=k/\k<=4):
 bI 177 #[U k] w0 (al λaC ai=>(∃cu:Bool,cu=true/\aC=.bool cu)/\Ext w0 ai):=by
 have bA:=eB w0;exact bR func177 rfl ntmps177 rfl (.go 7 rfl (.pk (.ge rfl rfl) (by exact decide_eq_true aa) (.go 2 rfl (.pk (.le rfl rfl) (by exact decide_eq_true aa) (.ae 3 rfl (aM func177 rfl rfl (al.mk ⟨⟨_,dw,rfl⟩,bA⟩)))))))
theorem hl{p:Prop}(h:p:=by omega):p:=h
theorem Ge{p:Prop}(h:p:=by first|exact zD.trans (ahk ba aa)|(rw[O_];exact ahn ba aa)|(exfalso;omega)):p:=h
theorem DN{p:Prop}(h:p:=by first|omega|(exfalso;omega)):p:=h
theorem Y3{w0:World}{mf:Value}{q:List Int}(k:Int){ky:Value}{s:List Pos}(Bw:aq iO w0 (cm w0) mf q)(yk:bY k)(ov:aq lA w0 (cm w0) ky s)(hk:0<=k/\k<=4)(dH:q.length<=1000)(hT:s.length<=1000):
 bI 178 #[mf,U k,ky] w0 (al λaC ai=>(∃dm,Acc aH.encI 3 1 ai dm aC (gq q.length (dY q.length k s))/\(dm=0\/w0.heap.size<dm))/\Ext w0 ai):=by
 have bA:=eB w0;refine bR func178 rfl ntmps178 rfl (.go 7 rfl (.z (.ct underlying179 (Bw) rfl) ?_));refine .z (.cd ((q.length+1:Nat):Int) rfl rfl hl) (.ac (.makeSlice (enc:=aH.encI) (q.length+1) (0:Int) underlying57 aJ b2 rfl aH.gH rfl rfl hl hl hl eS λv1 g1 ai av b6 cr cc=>have f1:=Bw.ext av;have f2:=ov.ext av;have bJ:=bA.ext av;have bV:(List.replicate (q.length+1) (0:Int)).length=q.length+1:=List.length_replicate;.go 6 rfl ?_));refine .z (.ct underlying57 (cc.ch) rfl) (.ae 3 rfl (dW (I:=λm E W=>∃(i:Nat) (row:List Int),E=[(0,mf),(1,U k),(2,ky),(7,v1),(17,U (((List.replicate (q.length+1) (0:Int)).length:Nat):Int)),(18,U (i:Int))]/\m=q.length+1-i/\Ext w0 W/\ai.heap.size<=W.heap.size/\aq iO W (cm w0) mf q/\aq lA W (cm w0) ky s/\Acc aH.encI 3 1 W g1 v1 row/\(row=gq q.length λj=>if j<i then k+1 else 0)/\(row.length=q.length+1)) ?_ ?_))
 . refine⟨_,_,⟨(0:Nat),((List.replicate (q.length+1) (0:Int)):List Int),rfl,rfl,bJ,Nat.le_refl _,f1,f2,cc,(by exact ahg _ _),dg⟩,bm⟩
 . rintro _ _ a1 ⟨i,row,rfl,rfl,bN,i6,f3,f4,f5,rQ,oV⟩ b5;refine .go 2 rfl (.bg (.lt rfl rfl) (λaG=>?_) λaG=>?_)
   . refine .go 15 rfl (.z (.cd (k+1) rfl rfl aa) ?_);obtain⟨c3,ay,ba⟩:=Acc.at f5 underlying57 aJ (k:=.i64) (n:=(i:Int)) (i) hl (by first|assumption|omega|(simp;done));refine .z (.indexAddr rfl rfl c3) (have dr:=f5.lt;.ac (.oI f5 aH.gH (i:=i) (o:=0) ba (k+1) aJ rfl hl rfl rfl rfl rfl b2 yf λbp aA eg dU=>have f6:=f3.bF aA aa;have f7:=f4.bF aA aa;have cj:=Ext.hb bN aA aa;have nr:=aA.size;have cz:(row.set i (k+1)).length=row.length:=List.length_set;.go 3 rfl ?_));exact .z (.cd ((i+1:Nat):Int) rfl rfl hl) (.ae 2 rfl ((b5 _ _ _ ⟨(i+1:Nat),((row.set i (k+1)):List Int),rfl,rfl,cj,hl,f6,f7,dU,(by first|exact ahh rQ hl|(exfalso;omega)),be⟩ hl).sub bm))
   refine .go 8 rfl (.z (.ct underlying225 (f4) rfl) (.ae 3 rfl ?_));refine dW (I:=λm E W=>∃(j:Nat) (yl:List Int),E=[(0,mf),(1,U k),(7,v1),(27,ky),(28,U (s.length:Int)),(29,U (j:Int))]/\m=s.length-j/\Ext w0 W/\a1.heap.size<=W.heap.size/\aq iO W (cm w0) mf q/\Acc aH.encI 3 1 W g1 v1 yl/\aq lA W (cm w0) ky s/\(yl=gq q.length (dY q.length k (s.take j)))/\(yl.length=q.length+1)) ?_ ?_
   . refine⟨_,_,⟨(0:Nat),(row:List Int),rfl,rfl,bN,Nat.le_refl _,f3,f5,f4,(by first|exact ahi rQ hl),hl⟩,bm⟩
   . rintro _ _ bp ⟨j,yl,rfl,rfl,cj,nr,f6,f7,f8,zD,atl⟩ f_;refine .go 2 rfl (.bg (.lt rfl rfl) (λaL=>?_) λaL=>?_)
     . refine .ae 2 rfl ?_;obtain⟨ay,bz,fb,ba,c3,cz,jn,cL⟩:=aq.fK f8 underlying225 Bc Wu (k:=.i64) (n:=(j:Int)) (j) hl aV;refine .go 6 rfl (.z (.indexAddr rfl rfl c3) (.z (.cq Bc rfl (λ_ e=>e▸cL) rfl) ?_));refine .ac (.alloc Bc λbW bL aA aX eg aW=>have dr:=f7.lt;have f9:=f6.ext aA;have f10:=f7.ext aA;have f11:=f8.ext aA;have eK:=cj.ext aA;.ac (.st Bc aW λcF aP bQ=>?_));replace bQ:dv cF bL [U ay.at_,U ay.ck] 268:=bQ;have f12:=f9.bF aP aa;have f13:=f10.bF aP aa;have f14:=f11.bF aP aa;have fH:=Ext.hb eK aP aa;have wP:=aP.size;refine .go 4 rfl (.a6 Dj aJ bQ (.bg (.lt rfl rfl) (λbq=>?_) λbq=>?_))
       . refine .go 22 rfl (.z (.cd ((j+1:Nat):Int) rfl rfl hl) (.ae 2 rfl ?_));exact(f_ _ _ _ ⟨(j+1:Nat),(yl:List Int),rfl,rfl,fH,hl,f12,f13,f14,Ge,DN⟩ hl).sub bm
       refine .go 1 rfl (.a6 Dj aJ bQ (.go 1 rfl ?_));refine .z (.ct underlying179 (f12) rfl) (.bg (.gt rfl rfl) (λcG=>?_) λcG=>?_)
       . refine .go 16 rfl (.z (.cd ((j+1:Nat):Int) rfl rfl hl) (.ae 2 rfl ?_));exact(f_ _ _ _ ⟨(j+1:Nat),(yl:List Int),rfl,rfl,fH,hl,f12,f13,f14,Ge,DN⟩ hl).sub bm
       refine .go 2 rfl (.a6 N2 aJ bQ (.bg (.lt rfl rfl) (λcv=>?_) λcv=>?_))
       . refine .go 11 rfl (.z (.cd ((j+1:Nat):Int) rfl rfl hl) (.ae 2 rfl ?_));exact(f_ _ _ _ ⟨(j+1:Nat),(yl:List Int),rfl,rfl,fH,hl,f12,f13,f14,Ge,DN⟩ hl).sub bm
       refine .go 2 rfl (.a6 N2 aJ bQ (.go 1 rfl ?_));refine .bg (.gt rfl rfl) (λdu=>?_) λdu=>?_
       . refine .go 5 rfl (.z (.cd ((j+1:Nat):Int) rfl rfl hl) (.ae 2 rfl ?_));exact(f_ _ _ _ ⟨(j+1:Nat),(yl:List Int),rfl,rfl,fH,hl,f12,f13,f14,Ge,DN⟩ hl).sub bm
       refine .go 6 rfl (.a6 Dj aJ bQ (.go 1 rfl ?_));refine .z (.hY (ay.at_-k) rfl rfl hl) (.z (.max rfl rfl) (.ae 3 rfl ?_));refine dW (I:=λm E W=>∃(i:Int) (zE:List Int),E=[(0,mf),(1,U k),(7,v1),(10,ptr bL 0),(11,U i),(27,ky),(28,U (s.length:Int)),(29,U (j:Int))]/\m=(3000-i).toNat/\Ext w0 W/\cF.heap.size<=W.heap.size/\aq iO W (cm w0) mf q/\Acc aH.encI 3 1 W g1 v1 zE/\dv W bL [U ay.at_,U ay.ck] 268/\aq lA W (cm w0) ky s/\bL+1≠g1/\(zE=gq q.length (tk q.length k s j i))/\(zE.length=q.length+1)/\(0<=i/\i<=3000/\ay.at_-k<=i)) ?_ ?_
       . refine⟨_,_,⟨((max (ay.at_-k) 0):Int),(yl:List Int),rfl,rfl,fH,Nat.le_refl _,f12,f13,bQ,f14,hl,(by rw[zD];exact ahl ba rfl),hl,hl⟩,bm⟩
       . rintro _ _ c9 ⟨i,zE,rfl,rfl,iH,zx,f15,f16,f17,f18,nf,O_,atm,F2⟩ O';refine .go 4 rfl (.a6 Dj aJ f17 (.go 1 rfl ?_));refine .z (.cd (ay.at_+k) rfl rfl hl) (.go 1 rfl (.z (.ct underlying179 (f15) rfl) ?_));refine .z (.min rfl rfl) (.bg (.le rfl rfl) (λdz=>?_) λdz=>?_)
         . refine .ae 5 rfl (eV (λi=>Nat.beq i 20) 20 (λan=>Mod (b_ 0) c9 an) mixed λdC aY=>have f19:=f15.ext aY;have f20:=f16.ext aY;have f21:=f17.ext aY;have f22:=f18.ext aY;have kn:=iH.ext aY;have Du:=aY.size;have ll:Mod (b_ 0) c9 dC:=Mod.gj aY;⟨ll,?_⟩);obtain⟨x2,k3,iu,c4,e3,jr,qd,eG⟩:=aq.fK f16.ch underlying57 aJ aH.gH (k:=.i64) (n:=i) ((i).toNat) hl aV;refine .gd 4 rfl (.z rfl (.indexAddr rfl rfl e3) (have Pa:=pf (O_▸c4);.z rfl (.cg aJ rfl (λ_ ao=>eG.bF ao hl)) ?_));refine .z rfl (.fieldAddr N2 rfl) (.z rfl (.cg aJ rfl (λ_ ao=>(f17.cell 1 _ rfl).bF ao hl)) (.gd 1 rfl ?_));refine .z rfl (.fieldAddr Dj rfl) (.z rfl (.cg aJ rfl (λ_ ao=>(f17.cell 0 _ rfl).bF ao hl)) (.z rfl (.hY (i-ay.at_) rfl rfl hl) ?_));refine .z rfl (.fieldAddr Dj rfl) (.z rfl (.cg aJ rfl (λ_ ao=>(f17.cell 0 _ rfl).bF ao hl)) (.gd 1 rfl ?_));refine .z rfl (.hY (ay.at_-i) rfl rfl hl) (.z rfl (.max rfl rfl) (.z rfl (.cd (ay.ck+(max (i-ay.at_) (ay.at_-i))) rfl rfl hl) ?_));refine .z rfl (.min rfl rfl) ?_;obtain⟨iw,gy,h5⟩:=Acc.at f16 underlying57 aJ (k:=.i64) (n:=i) ((i).toNat) hl (by first|assumption|omega|(simp;done));refine .z rfl (.indexAddr rfl rfl iw) (.ac rfl (.oI f20 aH.gH (i:=((i).toNat)) (o:=0) h5 (min x2 (ay.ck+(max (i-ay.at_) (ay.at_-i)))) aJ rfl hl rfl rfl rfl rfl b2 yf λeQ bt g' dU=>have f23:=f19.bF bt aa;have f24:=f21.bF bt aa;have f25:=f22.bF bt aa;have nU:=Ext.hb kn bt aa;⟨.inl rfl,?_⟩));have i7:(zE.set ((i).toNat) (min x2 (ay.ck+(max (i-ay.at_) (ay.at_-i))))).length=zE.length:=List.length_set;refine .nil (.go 3 rfl (.z (.cd (i+1) rfl rfl hl) ?_));exact .ae 2 rfl ((O' _ _ _ ⟨((i+1):Int),((zE.set ((i).toNat) (min x2 (ay.ck+(max (i-ay.at_) (ay.at_-i))))):List Int),rfl,rfl,nU,hl,f23,dU,f24,f25,hl,(by first|(subst O_;exact ahm ba hl hl hl hl hl c4)|(exfalso;omega)),be,DN⟩ hl).sub bm)
         refine .go 5 rfl (.z (.cd ((j+1:Nat):Int) rfl rfl hl) (.ae 2 rfl ?_));exact(f_ _ _ _ ⟨(j+1:Nat),(zE:List Int),rfl,rfl,iH,hl,f15,f16,f18,Ge,DN⟩ hl).sub bm
     exact .ae 9 rfl (aM func178 rfl rfl (al.mk ⟨⟨_,Acc.cast f7 (by first|exact aho zD hl|(exfalso;omega)),by omega⟩,cj⟩))
theorem alF{w0:World}{ky:Value}{s:List Int}(ov:aq aH.encI w0 (cm w0) ky s)(FL:s.length<=1000000):
 bI 180 #[ky] w0 (al λaC ai=>(∃dm,Acc aH.encI 3 1 ai dm aC (s)/\(dm=0\/w0.heap.size<dm))/\Ext w0 ai):=by
 have bA:=eB w0;refine bR func180 rfl ntmps180 rfl ?_;obtain⟨bZ,b0,ef,cr⟩:=aq.isNil (ov);refine .go 8 rfl ?_;subst ef;refine .ee (.Mo underlying57 rfl rfl) λaK aG=>.ae 1 rfl ?_
 cases aK
 case true =>
  replace aG:=aG.symm;replace cr:=cr aG;exact .ae 5 rfl (aM func180 rfl rfl (al.mk ⟨⟨0,Acc.cast Acc.nil Dm,.inl rfl⟩,bA⟩))
 replace aG:=aG.symm;exact .go 4 rfl (.ac (.buildSlice [] underlying57 aJ rfl rfl rfl b2 λai aR av aL eg aW=>have f1:=ov.ext av;have bJ:=bA.ext av;have cz:=Acc.eD (enc:=aH.encI) aW ([]:List Int) 0 rfl aH.gH rfl eS;.go 1 rfl (.ac (.append cz underlying57 aJ rfl aH.gH aH.xq rfl rfl (f1) ol fD λv1 g1 a1 cc aA b6 fA=>have bN:=Ext.hb bJ aA aa;.ae 2 rfl (aM func180 rfl rfl (al.mk ⟨⟨_,Acc.cast cc Dm,by omega⟩,bN⟩))))))
theorem kK{p:Prop}(h:p:=by omega):p:=h
theorem Pb{p:Prop}(h:p:=by first|exact ahA Gf aa aa|exact ahC Gf aa aa Pa.1 Bn.1 bh bh|exact ahD Gf aa aa Pa.1 Bn.1 bh|(exfalso;omega)):p:=h
theorem Pc{p:Prop}(h:p:=by first|exact ahq bj aa|exact ahr bj (Ww Gf (λx=>(Gg x).1) aa aa)|exact ahs bj aa (Ww Gf (λx=>(Gg x).1) aa aa) Bn.1|(exfalso;omega)):p:=h
theorem DO{p:Prop}(h:p:=by first|omega|(exfalso;omega)):p:=h
theorem alG{w0:World}{n:Nat}{f:Nat->Int}{uD:Value}{row:List Int}(k:Int)(Y4:aq aH.encI w0 (cm w0) uD row)(yk:bY k)(hk:0<=k/\k<=4)(rQ:row=gq n f)(Gg:∀x,0<=f x/\f x<=k+1)(aN:n<=1000):
 bI 181 #[uD,U k] w0 (al λaC ai=>(∃dm,Acc lA 268 2 ai dm aC (fL (n+1) k f)/\(dm=0\/w0.heap.size<dm))/\Ext w0 ai):=by
 have bA:=eB w0;have oV:row.length=n+1:=(by rw[rQ];exact xP n f);refine bR func181 rfl ntmps181 rfl (.go 12 rfl (.z (.ct underlying57 (Y4) rfl) (.ae 3 rfl (dW (I:=λm E W=>∃(eO:Value) (gg:Nat) (l:List Pos) (j:Nat),E=[(0,uD),(1,U k),(5,eO),(10,uD),(11,U (row.length:Int)),(12,U (j:Int))]/\m=row.length-j/\Ext w0 W/\w0.heap.size<=W.heap.size/\Acc lA 268 2 W gg eO l/\(gg=0\/w0.heap.size<gg)/\aq aH.encI W (cm w0) uD row/\(l=stateT (n+1) k f j)/\(j<=row.length)/\(l.length<=j)) ?_ ?_))))
 . refine⟨_,_,⟨(.slice none 0 0:Value),(0:Nat),([]:List Pos),(0:Nat),rfl,rfl,bA,Nat.le_refl _,Acc.nil,kK,Y4,dw,kK,sJ⟩,bm⟩
 . rintro _ _ ai ⟨eO,gg,l,j,rfl,rfl,bJ,hh,cc,b6,f1,bj,J9,mm⟩ b5;refine .go 2 rfl (.bg (.lt rfl rfl) (λaG=>?_) λaG=>?_)
   . refine .ae 2 rfl ?_;obtain⟨ay,aR,fb,ba,bV,cz,jn,cL⟩:=aq.fK f1 underlying57 aJ aH.gH (k:=.i64) (n:=(j:Int)) (j) kK aV;refine .go 7 rfl (.z (.indexAddr rfl rfl bV) (have Bn:=pf (rQ▸ba);have Y5:=Gg j;.z (.dN aJ cL) (.go 8 rfl (.bg (.gt rfl rfl) (λaL=>?_) λaL=>?_))))
     . exact .go 4 rfl (.z (.cd ((j+1:Nat):Int) rfl rfl kK) (.ae 2 rfl ((b5 _ _ _ ⟨(eO:Value),(gg:Nat),(l:List Pos),(j+1:Nat),rfl,rfl,bJ,kK,cc,kK,f1,Pc,DO,am⟩ kK).sub bm)))
     refine .go 12 rfl (.z (.hY ((j:Int)-k) rfl rfl kK) (.z (.max rfl rfl) (.ae 3 rfl (dW (I:=λm E W=>∃(b:Bool) (i:Int),E=[(0,uD),(1,U k),(5,eO),(6,U (j:Int)),(7,U ay),(8,.bool b),(9,U i),(10,uD),(11,U (row.length:Int)),(12,U (j:Int))]/\m=(3000-i).toNat/\Ext w0 W/\ai.heap.size<=W.heap.size/\aq aH.encI W (cm w0) uD row/\Acc lA 268 2 W gg eO l/\(b=q' (n+1) f j i)/\(0<=i/\i<=3000)) ?_ ?_))))
     . refine⟨_,_,⟨(false:Bool),((max ((j:Int)-k) 0):Int),rfl,rfl,bJ,Nat.le_refl _,f1,cc,(by exact ahp (λx=>(Gg x).1) kK rfl),kK⟩,bm⟩
     . rintro _ _ a1 ⟨b,i,rfl,rfl,bN,i6,f2,f3,Gf,F2⟩ f_;refine .go 6 rfl (.z (.cd ((j:Int)+k) rfl rfl kK) (.go 1 rfl (.z (.ct underlying57 (f2) rfl) (.z (.hY ((row.length:Int)-1) rfl rfl kK) (.z (.min rfl rfl) (.bg (.le rfl rfl) (λaX=>?_) λaX=>?_))))))
       . refine .go 8 rfl ?_;cases b
         case true =>
          exact .go 28 rfl (.z (.cd (i+1) rfl rfl kK) (.ae 2 rfl ((f_ _ _ _ ⟨(true:Bool),((i+1):Int),rfl,rfl,bN,kK,f2,f3,Pb,DO⟩ kK).sub bm)))
         obtain⟨x2,cE,iu,c4,c3,dr,qd,eG⟩:=aq.fK f2 underlying57 aJ aH.gH (k:=.i64) (n:=i) ((i).toNat) kK aV;refine .go 2 rfl (.z (.indexAddr rfl rfl c3) (have Pa:=pf (rQ▸c4);have atn:=Gg i.toNat;.z (.dN aJ eG) (.go 1 rfl (.bg (.lt rfl rfl) (λbq=>?_) λbq=>?_))))
         . refine .go 3 rfl (.z (.hY (i-(j:Int)) rfl rfl kK) (.go 2 rfl (.z (.hY ((j:Int)-i) rfl rfl kK) (.z (.max rfl rfl) ?_))));obtain⟨gy,gX,pR,h5,e3,e_,DP,jz⟩:=aq.fK f2 underlying57 aJ aH.gH (k:=.i64) (n:=i) ((i).toNat) kK aV;obtain rfl:x2=gy:=Option.some.inj (c4.symm.trans h5);exact .go 3 rfl (.z (.indexAddr rfl rfl e3) (.z (.dN aJ jz) (.z (.hY (ay-x2) rfl rfl kK) (.ee (.le rfl rfl) λhJ cG=>.go 7 rfl (.z (.cd (i+1) rfl rfl kK) (.ae 2 rfl ((f_ _ _ _ ⟨(hJ:Bool),((i+1):Int),rfl,rfl,bN,kK,f2,f3,Pb,DO⟩ kK).sub bm)))))))
         exact .go 22 rfl (.z (.cd (i+1) rfl rfl aa) (.ae 2 rfl ((f_ _ _ _ ⟨(false:Bool),((i+1):Int),rfl,rfl,bN,kK,f2,f3,Pb,DO⟩ kK).sub bm)))
       refine .go 6 rfl ?_;cases b
       case true =>
        exact .z (.not rfl) (.go 5 rfl (.z (.cd ((j+1:Nat):Int) rfl rfl kK) (.ae 2 rfl ((b5 _ _ _ ⟨(eO:Value),(gg:Nat),(l:List Pos),(j+1:Nat),rfl,rfl,bN,kK,f3,kK,f2,Pc,DO,am⟩ kK).sub bm))))
       exact .z (.not rfl) (.go 6 rfl (.z (.build (vs:=#[(0,(U (j:Int):Value)),(1,(U ay:Value))]) (v:=.agg #[U (j:Int),U ay]) rfl (λ_=>by kernel_rfl)) (.ac (.buildSlice [(.agg #[U (j:Int),U ay]:Value)] underlying225 Bc rfl rfl rfl b2 λbp cE av bq cr aW=>have dr:=f3.lt;have f4:=f2.ext av;have f5:=f3.ext av;have cj:=bN.ext av;have e_:=aq.eD (enc:=lA) aW ([(Pos.mk (j:Int) ay)]:List Pos) 1 rfl rfl eS;.ac (.append f5 underlying225 Bc rfl Wu ahf rfl rfl (e_) ol fD λv1 g1 bW dU aA eH eg=>have f6:=f4.bF aA aa;have eK:=Ext.hb cj aA aa;.go 4 rfl (.z (.cd ((j+1:Nat):Int) rfl rfl kK) (.ae 2 rfl ((b5 _ _ _ ⟨(v1:Value),(g1:Nat),((l++[(Pos.mk (j:Int) ay)]):List Pos),(j+1:Nat),rfl,rfl,eK,kK,dU,kK,f6,Pc,DO,am⟩ kK).sub bm))))))))
   exact .ae 9 rfl (aM func181 rfl rfl (al.mk ⟨⟨_,Acc.cast cc (by first|(rw[bj,show j=n+1 from by omega];rfl)|(exfalso;omega)),by omega⟩,bJ⟩))
theorem alH{w0:World}{mf:Value}{q:List Int}(k:Int)(Bw:aq iO w0 (cm w0) mf q)(yk:bY k)(hk:0<=k/\k<=4):
 bI 142 #[mf,U k] w0 (al λaC ai=>aq lA ai (dq w0.heap.size ai.heap.size) aC ([Pos.mk 0 0])/\Ext w0 ai):=by
 have bA:=eB w0;refine bR func142 rfl ntmps142 rfl (.go 8 rfl (.ac (.aF N' rfl (O9 (w0:=w0)  (k) cP aV) ?_)));rintro _ ai ⟨⟨_,rfl,rfl⟩,av⟩;have bJ:=bA.ext av;have hh:=av.size;exact .z (.not rfl) (.go 5 rfl (.z (.build (vs:=#[]) (v:=.agg #[ad,ad]) rfl (λ_=>by kernel_rfl)) (.ac (.buildSlice [(.agg #[ad,ad]:Value)] underlying225 Bc rfl rfl rfl b2 λa1 aK aA aG cr aW=>have bN:=bJ.ext aA;have cz:=aq.eD (enc:=lA) aW ([(Pos.mk 0 0)]:List Pos) 1 rfl rfl eS;.ae 2 rfl (aM func142 rfl rfl (al.mk ⟨(aq.cast (cz.cB aa aa) dw),bN⟩))))))
theorem jP{p:Prop}(h:p:=by omega):p:=h
theorem Y6{p:Prop}(h:p:=by first|(subst Kn;first|exact Wx aa k4 tB iU (by rw[if_pos (by rw[h5];congr 1)];omega)|exact Wx aa k4 tB iU (by rw[if_neg (by rw[h5];intro e;cases e;omega)]))|(exfalso;omega)):p:=h
theorem Ko{w0:World}{mf:Value}{q:List Int}(k:Int){ky:Value}{s:List Pos}(r:Int)(Bw:aq iO w0 (cm w0) mf q)(yk:bY k)(ov:aq lA w0 (cm w0) ky s)(Y7:-2147483648<=r/\r<=2147483647)(hk:0<=k/\k<=4)(dH:q.length<=1000)(hT:s.length<=1000):
 bI 146 #[mf,U k,ky,.int .i32 r] w0 (al λaC ai=>(∃dm,Acc lA 268 2 ai dm aC (fL (q.length+1) k (fF k q (dY q.length k s) r))/\(dm=0\/w0.heap.size<dm))/\Ext w0 ai):=by
 have bA:=eB w0;refine bR func146 rfl ntmps146 rfl (.go 8 rfl (.ac (.aF N' rfl (O9 (w0:=w0)  (k) cP aV) ?_)));rintro _ ai ⟨⟨_,rfl,rfl⟩,av⟩;have f1:=Bw.ext av;have f2:=ov.ext av;have bJ:=bA.ext av;have hh:=av.size;refine .z (.not rfl) (.go 8 rfl (.ac (.aF Yb rfl (Y3 (w0:=ai) (q:=q) (s:=s) (k) ((f1).cB (Nat.zero_le _) jP) cP ((f2).cB (Nat.zero_le _) jP) aV aV aV) ?_)));rintro v1 a1 ⟨⟨ic,h1,b6⟩,aA⟩;have f3:=f1.ext aA;have bN:=bJ.ext aA;have i6:=aA.size;have Oq:=h1.lt;have oV:=xP q.length (dY q.length k s);refine .go 5 rfl (.ac (.aF ajP rfl (alF (w0:=a1) (s:=(gq q.length (dY q.length k s)))  ((h1.ch).cB (Nat.zero_le _) jP) aV) ?_));rintro v2 bp ⟨⟨qf,ah,eH⟩,aP⟩;have f5:=f3.ext aP;have f7:=h1.ext aP;have cj:=bN.ext aP;have nr:=aP.size;have Dw:=ah.lt;obtain⟨ay,aK,fb,ba,bV,dr,jn,cL⟩:=aq.fK f7.ch underlying57 aJ aH.gH (k:=.i64) (n:=0) (0) jP aV;refine .go 6 rfl (.z (.indexAddr rfl rfl bV) (have Bn:=pf ba;have Y5:=xQ (n:=q.length) hk.1 s 0;.z (.dN aJ cL) (.z (.cd (ay+1) rfl rfl aa) (.go 1 rfl (.z (.cd (k+1) rfl rfl aa) (.z (.min rfl rfl) ?_))))));obtain⟨c3,x2,c4⟩:=Acc.at ah underlying57 aJ (k:=.i64) (n:=0) (0) jP (by first|assumption|omega|(simp;done));refine .z (.indexAddr rfl rfl c3) (.ac (.oI ah aH.gH (i:=0) (o:=0) c4 (min (ay+1) (k+1)) aJ rfl jP rfl rfl rfl rfl b2 yf λbW aY cr cc=>have f8:=f5.bF aY aa;have f10:=f7.bF aY aa;have eK:=Ext.hb cj aY aa;have e_:((gq q.length (dY q.length k s)).set 0 (min (ay+1) (k+1))).length=(gq q.length (dY q.length k s)).length:=List.length_set;.go 5 rfl (.z (.ct underlying179 (f8) rfl) (.ae 3 rfl (dW (I:=λm E W=>∃(i:Nat) (vN:List Int),E=[(1,U k),(3,.int .i32 r),(9,v1),(10,v2),(32,mf),(33,U (q.length:Int)),(34,U (i:Int))]/\m=q.length-i/\Ext w0 W/\bW.heap.size<=W.heap.size/\Acc aH.encI 3 1 W ic v1 (gq q.length (dY q.length k s))/\Acc aH.encI 3 1 W qf v2 vN/\aq iO W (cm w0) mf q/\(qf≠ic\/ic=0)/\(vN=gq q.length (r0 q.length k q s r i))/\(vN.length=q.length+1)) ?_ ?_)))))
 . refine⟨_,_,⟨(0:Nat),(((gq q.length (dY q.length k s)).set 0 (min (ay+1) (k+1))):List Int),rfl,rfl,eK,Nat.le_refl _,f10,cc,f8,jP,(by exact ahv ba),(by(simp only[List.length_set];omega))⟩,bm⟩
 . rintro _ _ cF ⟨i,vN,rfl,rfl,fH,wP,f11,f12,f13,nf,Kn,ato⟩ b5;refine .go 2 rfl (.bg (.lt rfl rfl) (λaG=>?_) λaG=>?_)
   . refine .ae 2 rfl ?_;obtain⟨gy,bz,iu,h5,e3,nu,qd,eG⟩:=aq.fK f13 underlying179 hU oE (k:=.i64) (n:=(i:Int)) (i) jP aV;refine .go 7 rfl (.z (.indexAddr rfl rfl e3) (.z (.dN hU eG) ?_));obtain⟨fN,bL,pR,iU,iw,my,DP,jz⟩:=aq.fK f11.ch underlying57 aJ aH.gH (k:=.i64) (n:=(i:Int)) (i) jP aV;refine .go 7 rfl (.z (.indexAddr rfl rfl iw) (have atp:=pf iU;have atq:=xQ (n:=q.length) hk.1 s i;.z (.dN aJ jz) (.go 7 rfl (.lO (.ne rfl rfl) (λaL=>?_) λaL=>?_))))
     . refine .go 4 rfl (.z (.cd (fN+1) rfl rfl aa) (.ae 2 rfl (eV (λi=>Nat.beq i 19) 19 (λan=>Mod (b_ 0) cF an) mixed λc9 bt=>have f14:=f11.ext bt;have f15:=f12.ext bt;have f16:=f13.ext bt;have iH:=fH.ext bt;have zx:=bt.size;have lR:Mod (b_ 0) cF c9:=Mod.gj bt;⟨lR,?_⟩)));refine .gd 2 rfl (.z rfl (.cd ((i+1:Nat):Int) rfl rfl jP) (.gd 2 rfl (.z rfl (.cd ((i+1:Nat):Int) rfl rfl jP) ?_)));obtain⟨iV,de,tw,k4,ix,mc,Pd,mb⟩:=aq.fK f11.ch underlying57 aJ aH.gH (k:=.i64) (n:=((i+1:Nat):Int)) (i+1) jP aV;refine .z rfl (.indexAddr rfl rfl ix) (have alI:=pf k4;have alJ:=xQ (n:=q.length) hk.1 s (i+1);.z rfl (.cg aJ rfl (λ_ ao=>mb.bF ao jP)) (.z rfl (.cd (iV+1) rfl rfl jP) ?_));obtain⟨mg,gX,zv,tB,mR,ux,alK,qI⟩:=aq.fK f12.ch underlying57 aJ aH.gH (k:=.i64) (n:=(i:Int)) (i) jP aV;refine .gd 2 rfl (.z rfl (.indexAddr rfl rfl mR) (have alL:=pf (Kn▸tB);have alM:=Wz (n:=q.length) (q:=q) (r:=r) hk.1 s i i;.z rfl (.cg aJ rfl (λ_ ao=>qI.bF ao jP)) (.z rfl (.cd (mg+1) rfl rfl jP) (.gd 2 rfl (.z rfl (.cd (k+1) rfl rfl jP) (.z rfl (.Sr rfl rfl rfl rfl) ?_))))));obtain⟨p0,sd,Bx⟩:=Acc.at f12 underlying57 aJ (k:=.i64) (n:=((i+1:Nat):Int)) (i+1) jP (by first|assumption|omega|(simp;done));exact .z rfl (.indexAddr rfl rfl p0) (.ac rfl (.oI f15 aH.gH (i:=(i+1)) (o:=0) Bx (min (min (min (iV+1) (mg+1)) (fN+1)) (k+1)) aJ rfl jP rfl rfl rfl rfl b2 yf λdC b9 eg dU=>have f17:=f14.bF b9 aa;have f18:=f16.bF b9 aa;have kn:=Ext.hb iH b9 aa;⟨.inl rfl,(have Ds:(vN.set (i+1) (min (min (min (iV+1) (mg+1)) (fN+1)) (k+1))).length=vN.length:=List.length_set;.nil (.go 2 rfl (.z (.cd ((i+1:Nat):Int) rfl rfl jP) (.ae 2 rfl ((b5 _ _ _ ⟨(i+1:Nat),((vN.set (i+1) (min (min (min (iV+1) (mg+1)) (fN+1)) (k+1))):List Int),rfl,rfl,kn,jP,f17,dU,f18,jP,Y6,be⟩ jP).sub bm)))))⟩))
     refine .ae 3 rfl (eV (λi=>Nat.beq i 19) 19 (λan=>Mod (b_ 0) cF an) mixed λc9 bt=>have f14:=f11.ext bt;have f15:=f12.ext bt;have f16:=f13.ext bt;have iH:=fH.ext bt;have zx:=bt.size;have lR:Mod (b_ 0) cF c9:=Mod.gj bt;⟨lR,?_⟩);refine .gd 2 rfl (.z rfl (.cd ((i+1:Nat):Int) rfl rfl jP) (.gd 2 rfl (.z rfl (.cd ((i+1:Nat):Int) rfl rfl jP) ?_)));obtain⟨iV,de,tw,k4,ix,mc,Pd,mb⟩:=aq.fK f11.ch underlying57 aJ aH.gH (k:=.i64) (n:=((i+1:Nat):Int)) (i+1) jP aV;refine .z rfl (.indexAddr rfl rfl ix) (have alI:=pf k4;have alJ:=xQ (n:=q.length) hk.1 s (i+1);.z rfl (.cg aJ rfl (λ_ ao=>mb.bF ao jP)) (.z rfl (.cd (iV+1) rfl rfl aa) ?_));obtain⟨mg,gX,zv,tB,mR,ux,alK,qI⟩:=aq.fK f12.ch underlying57 aJ aH.gH (k:=.i64) (n:=(i:Int)) (i) jP aV;refine .gd 2 rfl (.z rfl (.indexAddr rfl rfl mR) (have alL:=pf (Kn▸tB);have alM:=Wz (n:=q.length) (q:=q) (r:=r) hk.1 s i i;.z rfl (.cg aJ rfl (λ_ ao=>qI.bF ao jP)) (.z rfl (.cd (mg+1) rfl rfl aa) (.gd 2 rfl (.z rfl (.cd (k+1) rfl rfl aa) (.z rfl (.Sr rfl rfl rfl rfl) ?_))))));obtain⟨p0,sd,Bx⟩:=Acc.at f12 underlying57 aJ (k:=.i64) (n:=((i+1:Nat):Int)) (i+1) jP (by first|assumption|omega|(simp;done));exact .z rfl (.indexAddr rfl rfl p0) (.ac rfl (.oI f15 aH.gH (i:=(i+1)) (o:=0) Bx (min (min (min (iV+1) (mg+1)) fN) (k+1)) aJ rfl jP rfl rfl rfl rfl b2 yf λdC b9 eg dU=>have f17:=f14.bF b9 aa;have f18:=f16.bF b9 aa;have kn:=Ext.hb iH b9 aa;⟨.inl rfl,(have Ds:(vN.set (i+1) (min (min (min (iV+1) (mg+1)) fN) (k+1))).length=vN.length:=List.length_set;.nil (.go 2 rfl (.z (.cd ((i+1:Nat):Int) rfl rfl jP) (.ae 2 rfl ((b5 _ _ _ ⟨(i+1:Nat),((vN.set (i+1) (min (min (min (iV+1) (mg+1)) fN) (k+1))):List Int),rfl,rfl,kn,jP,f17,dU,f18,jP,Y6,be⟩ jP).sub bm)))))⟩))
   refine .go 8 rfl (.ac (.aF ajQ rfl (alG (w0:=cF) (row:=vN) (k) ((f12.ch).cB (Nat.zero_le _) jP) cP aV (by exact ahz Kn jP) (by exact Nv hk.1 (xQ hk.1 s)) aV) ?_));rintro v3 c9 ⟨⟨r7,aB,jL⟩,bt⟩;have nu:=f11.lt;have my:=f12.lt;have iH:=fH.ext bt;have zx:=bt.size;exact .ae 2 rfl (aM func146 rfl rfl (al.mk ⟨⟨_,Acc.cast aB dw,by omega⟩,iH⟩))
theorem Kp{p:Prop}(h:p:=by first|(rw[if_pos aa];done)|(rw[if_neg aa];omega)|exact(decide_eq_false aa).symm|exact(decide_eq_true aa).symm|(exfalso;omega)):p:=h
theorem alN{w0:World}{mf:Value}{q:List Int}(k:Int){ky:Value}{s:List Pos}(Bw:aq iO w0 (cm w0) mf q)(yk:bY k)(ov:aq lA w0 (cm w0) ky s)(hk:0<=k/\k<=4)(dH:q.length<=1000)(hT:s.length<=1000):
 bI 143 #[mf,U k,ky] w0 (al λaC ai=>∃eP gk,aC=.tuple #[eP,gk]/\eP=U (if dY q.length k s q.length>k then 0 else dY q.length k s q.length)/\(∃cu:Bool,cu=(decide (dY q.length k s q.length<=k))/\gk=.bool cu)/\Ext w0 ai):=by
 have bA:=eB w0;refine bR func143 rfl ntmps143 rfl (.go 9 rfl (.ac (.aF N' rfl (O9 (w0:=w0)  (k) cP aV) ?_)));rintro _ ai ⟨⟨_,rfl,rfl⟩,av⟩;have f1:=Bw.ext av;have f2:=ov.ext av;have bJ:=bA.ext av;have hh:=av.size;refine .z (.not rfl) (.go 8 rfl (.ac (.aF Yb rfl (Y3 (w0:=ai) (q:=q) (s:=s) (k) ((f1).cB (Nat.zero_le _) aa) cP ((f2).cB (Nat.zero_le _) aa) aV aV aV) ?_)));rintro v1 a1 ⟨⟨ic,h1,b6⟩,aA⟩;have f3:=f1.ext aA;have bN:=bJ.ext aA;have oV:=xP q.length (dY q.length k s);refine .go 1 rfl (.z (.ct underlying179 (f3) rfl) ?_);obtain⟨ay,aK,fb,ba,bV,cz,jn,cL⟩:=aq.fK h1.ch underlying57 aJ aH.gH (k:=.i64) (n:=(q.length:Int)) (q.length) aa aV;refine .z (.indexAddr rfl rfl bV) (have Bn:=pf ba;have Y5:=xQ (n:=q.length) hk.1 s q.length;.z (.dN aJ cL) (.go 7 rfl (.bg (.gt rfl rfl) (λaG=>?_) λaG=>?_)))
 . exact .ae 7 rfl (cJ func143 rfl rfl rfl (al.mk ⟨_,_,rfl,(cS Kp),⟨_,Kp,rfl⟩,bN⟩))
 exact .ae 9 rfl (cJ func143 rfl rfl rfl (al.mk ⟨_,_,rfl,(cS Kp),⟨_,Kp,rfl⟩,bN⟩))
theorem Kq{w0:World}{ky:Value}{s:List Pos}(ov:aq lA w0 (cm w0) ky s):
 bI 147 #[ky] w0 (al λaC ai=>(∃cu:Bool,cu=s.isEmpty/\aC=.bool cu)/\Ext w0 ai):=by
 have bA:=eB w0;exact bR func147 rfl ntmps147 rfl (.go 7 rfl (.z (.ct underlying225 (ov) rfl) (.ee (.eq rfl rfl) λaK aG=>.ae 2 rfl (aM func147 rfl rfl (al.mk ⟨⟨_,(by first|exact ahB bh|(exfalso;omega)),rfl⟩,bA⟩)))))
end Go.Proofs
namespace Go.Proofs
open Tryz
open Go.aH Go.ak
theorem zF{p:Prop}(h:p:=by first|(rw[ahJ rfl rfl,By,WI aa Gh];simp)|(rw[By,WI aa Gh,ahV hd.1 Gi lM jF oH l_ rfl bh];rfl)|(exfalso;omega)):p:=h
theorem zG{p:Prop}(h:p:=by first|(rw[WB];rw[WJ aa oU];simp only;omega)|(rw[WJ aa oU];omega)|(exfalso;omega)):p:=h
theorem jB{p:Prop}(h:p:=by omega):p:=h
theorem zH{p:Prop}(h:p:=by first|exact ym|exact λx ag=>List.mem_append_left _ (ym x ag)|(exfalso;omega)):p:=h
theorem mB{p:Prop}(h:p:=by assumption):p:=h
theorem zI{p:Prop}(h:p:=by first|exact Kr|exact sQ|(exfalso;omega)):p:=h
theorem Ks{p:Prop}(h:p:=by first|have:=C6 sQ;rw[NA aa] at DQ;omega|(exfalso;omega)):p:=h
theorem zJ{p:Prop}(h:p:=by first|omega|(exfalso;omega)):p:=h
theorem Kt{p:Prop}(h:p:=by first|rw[NA aa] at DQ;omega|(exfalso;omega)):p:=h
theorem Ku{p:Prop}(h:p:=by first|rw[By,WH aa];exact cj|(exfalso;omega)):p:=h
theorem Kv{p:Prop}(h:p:=by first|rw[bN,By,WH aa]|(exfalso;omega)):p:=h
theorem Kw{p:Prop}(h:p:=by(rw[ahI (by have:=ahX Gj;omega)];rfl)):p:=h
theorem Gk{p:Prop}(h:p:=by first|assumption|omega|(simp;done)):p:=h
theorem Kx{p:Prop}(h:p:=by rw[NA aa] at DQ;omega):p:=h
theorem Ky{p:Prop}(h:p:=by first|exact sQ|(exfalso;omega)):p:=h
theorem alO {w0:World} {F G:Nat→Prop} {b3:Type} {A:b3→dk az} {kP:FuncId} {first cap:List Value} {ok:b3→aj→Prop} {f:b3→aj→b3×Bool} {jq mf:Value} {gT e':Nat} {s:c5} {words:List aj} {ti:List ca} {q:List Int} (d:Int) (dB:b3) (aD:WE Tryz.prog kP first cap A ok f) (bf:(A dB).p F w0) (bs:∀ b,F b→b < w0.heap.size) (p6:ht 0 w0 gT e' jq (fT s)) (p3:e'≤w0.heap.size) (Gl:∀ b,gT≤b→b < e'→¬ F b) (dH:aq iO w0 G mf q) (cb:∀ b,G b→¬ F b) (dD:∀ b,G b→b < w0.heap.size) (hd:0≤d∧d≤4) (DI:q.length≤999) (alP:nodeAt (fT s) 0=(jY words,ti)) (EC:o_ s (words,ti)) (nv:gu words) (alQ:Deep 12 words) (l_:∀ y∈s,o_ s y∧gu y.1∧Deep 12 y.1) (dI:s.length≤1000000) (iv:∀ x∈fT s,x.2.length≤1000000) (alR:uh words≤500000) (bX:l6 ok f dB (p' words q d)) :
 bI 100 #[jq,mf,U d,.func (.func kP) first.toArray cap.toArray] w0 (al fun aC ai=>aC=.tuple #[]∧Mod F w0 ai∧∃ bu,(A (fp f dB (p' words q d)).1).p bu ai∧∀ b,bu b→b < ai.heap.size∧(F b∨w0.heap.size≤b)):=by
 have dO:=au.hr (R:=az) bf (fun b ab=>⟨bs b ab,id⟩) (fun _ h=>h.elim);have rW:(fT s).length≤1000000:=(by rw [u6]; exact dI);refine bR func100 rfl ntmps100 rfl ?_;refine .go 4 rfl ?_;refine .ac (.aF ajE rfl (alH (w0:=w0) (q:=q) (d) (dH.mono (fun b ab=>⟨Nat.zero_le _,Nat.lt_of_lt_of_le (dD b ab) dO.mod.size⟩)) cP aV) ?_);rintro v1 ai ⟨h1,av⟩;have a7:=(dO.E1 av h1).bO;have vE:=h1.le;have f1:=a7.gf 1 0;obtain ⟨bZ,b0,ef⟩:=f1.shape;subst ef;refine .z (.build (vs:=#[(0,(ad:Value)),(1,(.slice bZ ([Pos.mk 0 0]).length b0)),(2,aE ([]:aj))]) (v:=.agg #[ad,(.slice bZ ([Pos.mk 0 0]).length b0),aE ([]:aj)]) rfl (fun _=>by kernel_rfl)) ?_;refine .ac (.buildSlice [(.agg #[ad,(.slice bZ ([Pos.mk 0 0]).length b0),aE ([]:aj)]:Value)] underlying229 sE rfl rfl rfl b2 fun a1 aK aA aG cr aW=>?_);have cz:=Acc.eD (enc:=re) aW ([(hx.mk 0 (cK.mk bZ ([Pos.mk 0 0]).length b0) ([]:aj))]:List hx) 1 rfl A9 rfl eS;have aZ:=(a7.fz aA cz (.inr aa)).cx;have a_:=(aZ.dy [2,1,0]).cx;refine .ae 3 rfl ?_;refine dW (I:=fun m E W=>∃ (Pe:Value) (hq:List hx) (nG:List g_) (V:List (Value×List Pos)) (ew:b3),E=[(0,jq),(1,mf),(2,U d),(3,.func (.func kP) first.toArray cap.toArray),(8,Pe)]∧m=ra nG∧au az F w0 W [aS re 228 3 Pe hq,fa lA V,A ew]∧(cZ (nR q d s V) hq nG)∧(fp f dB (p' words q d)=fp f ew (mJ q d nG))∧(l6 ok f ew (mJ q d nG))∧(ra nG≤500000)∧(hq.length≤500000)) ?_ ?_
 · refine ⟨_,_,⟨((.slice (some ⟨aK,0,none⟩) 1 1):Value),([(hx.mk 0 (cK.mk bZ ([Pos.mk 0 0]).length b0) ([]:aj))]:List hx),([g_.mk 0 (words,ti) []]:List g_),([((.slice bZ ([Pos.mk 0 0]).length b0),([Pos.mk 0 0]))]:List (Value×List Pos)),(dB:b3),rfl,rfl,a_,(by exact nR.start hd.1 rfl alP EC nv alQ),(by rw [WD]),(by rw [WD]; exact bX),(by simpa [ra] using alR),dg⟩,bm⟩
 · rintro _ _ bp ⟨Pe,hq,nG,V,ew,rfl,rfl,bb,v_,fV,oK,atr,JT⟩ b5;obtain ⟨g1,f2,dr,bC⟩:=bb.b4 0;refine .go 4 rfl ?_;refine .z (.ct underlying229 (f2.ch) rfl) ?_;refine .bg (.gt rfl rfl) (fun aL=>?_) fun aL=>?_
   · refine .go 8 rfl ?_;refine .z (.ct underlying229 (f2.ch) rfl) ?_;refine .z (.hY ((hq.length:Int)-1) rfl rfl jB) ?_;obtain ⟨ay,bz,fb,ba,bV,e_,cL⟩:=aq.jG f2.ch underlying229 sE A9 (k:=.i64) (n:=((hq.length:Int)-1)) (hq.length-1) jB aV;refine .z (.indexAddr rfl rfl bV) ?_;refine .z (.cq sE rfl (fun _ e=>e▸cL) rfl) ?_;obtain ⟨mr,z,zK,rfl,rfl,cr,Gm,qa,Gj,w5,Gi,ats,att,Kz,vY⟩:=nR.pop v_ ba jB;rw [WA,ahG w5,←ahH] at fV oK;have atu:=WB mr z;have atv:=ahO w5;have qN:=ahQ (q:=q) (w:=z.word) hd.1 (D:=dY q.length d (fr q d (ea z.word)) q.length) rfl;have alS:=ahu (q.length+1) d (hR q (ea z.word));change (fr q d (ea z.word)).length≤_ at alS;refine .ac (.alloc sE fun bW bL aP aX eg bQ=>?_);have bM:=(bb.cR aP aX bQ).bU;have f3:=bM.k 3;refine .ac (.st sE f3 fun cF aY cN=>?_);have bD:=(bM.c8 3 aY cN.hE).bU;obtain ⟨g2,f4,gE,cy⟩:=bD.b4 0;refine .go 5 rfl ?_;refine .z (.ct underlying229 (f4.ch) rfl) ?_;refine .z (.hY ((hq.length:Int)-1) rfl rfl jB) ?_;obtain ⟨v2,c3,cc⟩:=Acc.cut (P:=Tryz.prog) f4 underlying229 sE A9 (k:=.i64) (n:=((hq.length:Int)-1)) (hq.length-1) jB jB;refine .z (.qX rfl rfl rfl rfl c3) ?_;have bH:=(cy _ _ _ _ (Mod.refl _ _) cc (.inl rfl)).bU;refine .go 7 rfl ?_;have f5:=bH.k 3;refine .a6 FF FB f5 ?_;have f6:=bH.out dH cb;have f7:=bH.Fs (i:=1) rfl Gm;refine .ac (.aF ajF rfl (alN (w0:=cF) (q:=q) (s:=(fr q d (ea z.word))) (d) (f6.mono (fun b ab=>⟨Nat.zero_le _,Nat.lt_of_lt_of_le (dD b ab) bH.mod.size⟩)) cP f7 aV aV aV) ?_);rintro _ c9 ⟨_,_,rfl,rfl,⟨cE,bq,rfl⟩,bt⟩;have br:=bH.ext bt;refine .go 10 rfl ?_;cases cE
     case true =>
      replace bq:=bq.symm;refine .go 2 rfl ?_;refine .gl (.eq rfl rfl) (fun cG=>?_) fun cG=>?_
      · refine .go 3 rfl ?_;have f8:=br.k 3;refine .a6 FE aJ f8 ?_;have f9:=ht.A8 p6 br.mod Gl;refine .ac (.aF X_ rfl (Yy (w0:=c9)  (z.n:Int) f9 (Nat.le_trans p3 br.mod.size) cP Gk) ?_);rintro _ dC ⟨⟨gX,cv,rfl⟩,b9⟩;have bP:=br.ext b9;rw [qa] at cv;dsimp only at cv;refine .go 2 rfl ?_;cases gX
        case true =>
         replace cv:=cv.symm;refine .go 1 rfl ?_;have f10:=bP.k 3;refine .a6 FG dP f10 ?_;have Ao:jY z.x.1=true:=(by assumption);obtain ⟨h4,dx,ds,dd⟩:=bP.ec 2;refine .ac (.call (first:=first) (cap:=cap) aD.cl rfl rfl (aD.call _ _ _ _ dx (fun b ab=>(ds b ab).2) (ahT oK ⟨Ao,qN.1 (Fu mB mB)⟩)) ?_);rintro _ eQ ⟨rfl,cH,fq,gV,d_⟩;have b8:=(dd _ _ _ cH gV d_).bU;clear dx ds dd gV d_;generalize du:(f ew z.word).2=hJ;replace du:=du.symm;cases hJ
         case true =>
          replace du:=du.symm;refine .z (.not rfl) ?_;refine .go 7 rfl ?_;have f11:=b8.k 3;refine .a6 FE aJ f11 ?_;have f12:=ht.A8 p6 b8.mod Gl;refine .ac (.aF Dl rfl (Dr (w0:=eQ)  (z.n:Int) f12 (Nat.le_trans p3 b8.mod.size) cP Gk (by first|assumption|(simp; done))) ?_);rintro v3 fl ⟨⟨ic,ah,b6⟩,dj⟩;have cp:=(b8.fz dj ah b6).cQ;clear b6;have uC:(nodeAt (fT s) (z.n:Int)).2=z.x.2:=(by rw [qa]);have vJ:=CC iv (z.n:Int);rw [uC] at vJ;have cT:au az F w0 fl [aS re 228 3 v2 (hq.take (hq.length-1)),fa lA V,A (f ew z.word).1,ax bL [U (z.n:Int),zK.val,aE z.word] 228,aS e0 233 2 v3 z.x.2]:=(by rw [←uC]; exact cp);have bN:fp f dB (p' words q d)=fp f (f ew z.word).1 (mK q d z 0++mJ q d mr):=ahS fV ⟨Ao,qN.1 (Fu mB mB)⟩ mB;have cj:l6 ok f (f ew z.word).1 (mK q d z 0++mJ q d mr):=ahU oK ⟨Ao,qN.1 (Fu mB mB)⟩ mB;obtain ⟨g3,f13,jr,dE⟩:=cT.b4 4;refine .go 5 rfl ?_;refine .z (.ct underlying219 (f13.ch) rfl) ?_;refine .z (.hY ((z.x.2.length:Int)-1) rfl rfl jB) ?_;have dS:=(cT.dy [0,1,3,4,2]).cQ;refine .ae 3 rfl ?_;refine dW (I:=fun m E W=>∃ (n0:Value) (mh:List hx) (i:Int) (k6:List g_) (kp:List (Value×List Pos)),E=[(0,jq),(1,mf),(2,U d),(3,.func (.func kP) first.toArray cap.toArray),(8,n0),(9,ptr bL 0),(12,v3),(13,U i)]∧m=(i+1).toNat∧au az F w0 W [aS re 228 3 n0 mh,fa lA kp,ax bL [U (z.n:Int),zK.val,aE z.word] 228,aS e0 233 2 v3 z.x.2,A (f ew z.word).1]∧(cZ (nR q d s kp) mh k6)∧(∀ x∈V,x∈kp)∧(mJ q d k6=mK q d z (i+1).toNat++mJ q d mr)∧(ra k6≤ra mr+rb (gZ (fE z.x.1)) (i+1).toNat)∧(-1≤i∧i < (z.x.2.length:Int))) ?_ ?_
          · refine ⟨_,_,⟨(v2:Value),((hq.take (hq.length-1)):List hx),(((z.x.2.length:Int)-1):Int),(mr:List g_),(V:List (Value×List Pos)),rfl,rfl,dS,(by exact cr),(by exact fun x ag=>ag),Kw,jB,jB⟩,bm⟩
          · rintro _ _ fs ⟨n0,mh,i,k6,kp,rfl,rfl,df,sQ,ym,By,DQ,ye⟩ f_;refine .go 4 rfl ?_;refine .bg (.ge rfl rfl) (fun dz=>?_) fun dz=>?_
            · refine .ae 1 rfl ?_;obtain ⟨g4,f14,i7,hg⟩:=df.b4 3;obtain ⟨x2,k3,iu,c4,e3,nu,eG⟩:=aq.jG f14.ch underlying219 eN lv (k:=.i64) (n:=i) ((i).toNat) jB aV;refine .go 8 rfl ?_;refine .z (.indexAddr rfl rfl e3) ?_;obtain ⟨fR,yi,qm,kJ,lM,qB,oH,jF,F9⟩:=AQ Gj w5 c4;obtain ⟨vg,rfl,tl⟩:=CD w5 Kz kJ;have o2:fB x2.rune=ei fR.1:=(by rw [lM]; exact yR jF);have Bz:=xC fR.1;have Pf:(fB x2.rune).length≤4:=(by rw [o2]; exact Bz);have pP:0≤x2.rune∧x2.rune≤1114111:=(by rw [lM]; have:=jF.1; omega);have Gh:=I2 (q:=q) (d:=d) kJ;have oU:=I4 kJ;have Pg:=Fp fR.2;have Ph:=C6 sQ;have Pj:=I7 (gZ (fE z.x.1)) (i+1).toNat;refine .z (.cq eN rfl (fun _ e=>e▸eG) rfl) ?_;refine .ac (.alloc eN fun hy ox dp e5 g' c'=>?_);have ff:=(df.cR dp e5 c').n6;have f15:=ff.k 5;refine .ac (.store eN rfl rfl rfl rfl rfl f15 dn fun i_ dM gY eW=>?_);have eo:=(ff.c8 5 dM eW.c2).n6;refine .go 5 rfl ?_;have f16:=eo.k 2;refine .a6 FF FB f16 ?_;have f17:=eo.k 5;refine .a6 rj hU f17 ?_;have f18:=eo.out dH cb;have f19:=eo.Fs (i:=1) rfl (ym _ Gm);refine .ac (.aF Jy rfl (Ko (w0:=i_) (q:=q) (s:=(fr q d (ea z.word))) (d) (x2.rune) (f18.mono (fun b ab=>⟨Nat.zero_le _,Nat.lt_of_lt_of_le (dD b ab) eo.mod.size⟩)) cP f19 cP aV aV aV) ?_);rintro v4 kU ⟨⟨qf,aB,eH⟩,eT⟩;have f':=(eo.fz eT aB eH).n7;clear eH;obtain ⟨g5,f20,my,jw⟩:=f'.b4 6;refine .go 5 rfl ?_;refine .ac (.aF Jz rfl (Kq (w0:=kU) (s:=(fL (q.length+1) d (fF d q (dY q.length d (fr q d (ea z.word))) x2.rune)))  (f20.ch.cB (Nat.zero_le _) f20.lt)) ?_);rintro _ nV ⟨⟨qJ,gS,rfl⟩,gO⟩;have fi:=f'.ext gO;cases qJ
              case true =>
               replace gS:=gS.symm;refine .z (.not rfl) ?_;refine .go 6 rfl ?_;refine .z (.hY (i-1) rfl rfl jB) ?_;have gG:=(fi.dy [0,1,2,3,4]).cQ;refine .ae 2 rfl ?_;exact (f_ _ _ _ ⟨(n0:Value),(mh:List hx),((i-1):Int),(k6:List g_),(kp:List (Value×List Pos)),rfl,rfl,gG,zI,zH,zF,zG,zJ⟩ jB).sub bm
              replace gS:=gS.symm;refine .z (.not rfl) ?_;refine .go 4 rfl ?_;have f21:=fi.k 5;refine .a6 rk aJ f21 ?_;refine .go 1 rfl ?_;have f22:=fi.k 2;refine .a6 FG dP f22 ?_;refine .a6 rj hU f21 ?_;refine .z (.v7 cY underlying9 rfl) ?_;refine .z (.uS rfl rfl vG) ?_;obtain ⟨g6,f23,mQ,p9⟩:=fi.b4 6;obtain ⟨eL,eM,kl⟩:=f23.shape;subst kl;refine .z (.build (vs:=#[(0,(U x2.to:Value)),(1,(.slice eL (fL (q.length+1) d (fF d q (dY q.length d (fr q d (ea z.word))) x2.rune)).length eM)),(2,aE (z.word++(fB x2.rune)))]) (v:=.agg #[U x2.to,(.slice eL (fL (q.length+1) d (fF d q (dY q.length d (fr q d (ea z.word))) x2.rune)).length eM),aE (z.word++(fB x2.rune))]) rfl (fun _=>by kernel_rfl)) ?_;refine .ac (.buildSlice [(.agg #[U x2.to,(.slice eL (fL (q.length+1) d (fF d q (dY q.length d (fr q d (ea z.word))) x2.rune)).length eM),aE (z.word++(fB x2.rune))]:Value)] underlying229 sE rfl rfl rfl b2 fun wU yh j4 nt kd gA=>?_);have lo:=aq.eD (enc:=re) gA ([(hx.mk x2.to (cK.mk eL (fL (q.length+1) d (fF d q (dY q.length d (fr q d (ea z.word))) x2.rune)).length eM) (z.word++(fB x2.rune)))]:List hx) 1 rfl rfl eS;have gz:=(fi.hF j4 nt kd lo).n8;obtain ⟨g8,f24,mc,pb⟩:=gz.b4 0;have f25:=gz.gf 7 0;refine .ac (.append f24 underlying229 sE rfl A9 I6 rfl rfl (f25) ol fD fun v5 g7 Gn dU BA jL vI=>?_);have iI:=(pb _ _ _ _ BA dU jL).n8;clear jL;have jA:=(iI.freeze (i:=6) rfl).n8;have ko:=(jA.aR [0,2,3,4,5,7] 1 6).n7;have oz:=(ko.ty (fa lA (kp++[((.slice eL (fL (q.length+1) d (fF d q (dY q.length d (fr q d (ea z.word))) x2.rune)).length eM),(fL (q.length+1) d (fF d q (dY q.length d (fr q d (ea z.word))) x2.rune)))])) 6 rfl (fun dV bG=>I5 bG)).n7;have Kr:=nR.push hd.1 sQ dI l_ Gi (sh:=cK.mk eL (fL (q.length+1) d (fF d q (dY q.length d (fr q d (ea z.word))) x2.rune)).length eM) (L:=(fL (q.length+1) d (fF d q (dY q.length d (fr q d (ea z.word))) x2.rune))) (wd:=z.word++fB x2.rune) lM oH jF rfl (by rw [o2]) tl vY qB;refine .go 5 rfl ?_;refine .z (.hY (i-1) rfl rfl jB) ?_;have pv:=(oz.dy [0,6,1,2,3]).cQ;refine .ae 2 rfl ?_;exact (f_ _ _ _ ⟨(v5:Value),((mh++[(hx.mk x2.to (cK.mk eL (fL (q.length+1) d (fF d q (dY q.length d (fr q d (ea z.word))) x2.rune)).length eM) (z.word++(fB x2.rune)))]):List hx),((i-1):Int),((k6++[g_.mk yi (fR.2,qm) (z.word++ei fR.1)]):List g_),((kp++[((.slice eL (fL (q.length+1) d (fF d q (dY q.length d (fr q d (ea z.word))) x2.rune)).length eM),(fL (q.length+1) d (fF d q (dY q.length d (fr q d (ea z.word))) x2.rune)))]):List (Value×List Pos)),rfl,rfl,pv,zI,zH,zF,zG,zJ⟩ jB).sub bm
            refine .ae 1 rfl ?_;have eu:=(df.dy [0,1,4]).cx;refine .ae 3 rfl ?_;exact (b5 _ _ _ ⟨(n0:Value),(mh:List hx),(k6:List g_),(kp:List (Value×List Pos)),((f ew z.word).1:b3),rfl,rfl,eu,Ky,Kv,Ku,Kt,Ks⟩ Kx).sub bm
         replace du:=du.symm;refine .z (.not rfl) ?_;refine .ae 3 rfl ?_;refine tG func100 rfl ?_;have bT:=(b8.dy [2]).cf;have oD:(fp f dB (p' words q d)).1=(f ew z.word).1:=(by first|(rw [WG fV ⟨Ao,qN.1 (Fu mB mB)⟩ mB]; done)|(rw [fV,WK v_ jB]; rfl));obtain ⟨cA,cU,cV,cM⟩:=bT.fin;exact al.mk ⟨rfl,cA,cU,oD▸cV,cM⟩
        replace cv:=cv.symm;refine .go 12 rfl ?_;have f10:=bP.k 3;refine .a6 FE aJ f10 ?_;have f11:=ht.A8 p6 bP.mod Gl;refine .ac (.aF Dl rfl (Dr (w0:=dC)  (z.n:Int) f11 (Nat.le_trans p3 bP.mod.size) cP Gk (by first|assumption|(simp; done))) ?_);rintro v3 eQ ⟨⟨ic,ah,b6⟩,cH⟩;have bT:=(bP.fz cH ah b6).cQ;clear b6;have uC:(nodeAt (fT s) (z.n:Int)).2=z.x.2:=(by rw [qa]);have vJ:=CC iv (z.n:Int);rw [uC] at vJ;have cp:au az F w0 eQ [aS re 228 3 v2 (hq.take (hq.length-1)),fa lA V,A ew,ax bL [U (z.n:Int),zK.val,aE z.word] 228,aS e0 233 2 v3 z.x.2]:=(by rw [←uC]; exact bT);have bN:fp f dB (p' words q d)=fp f ew (mK q d z 0++mJ q d mr):=Ny fV (fun ao=>by first|exact C7 mB (qN.2 ao.2)|exact C8 mB (qN.2 ao.2)|exact absurd ao.1 (by simp [*]));have cj:l6 ok f ew (mK q d z 0++mJ q d mr):=Nz oK (fun ao=>by first|exact C7 mB (qN.2 ao.2)|exact C8 mB (qN.2 ao.2)|exact absurd ao.1 (by simp [*]));obtain ⟨g3,f12,jr,dE⟩:=cp.b4 4;refine .go 5 rfl ?_;refine .z (.ct underlying219 (f12.ch) rfl) ?_;refine .z (.hY ((z.x.2.length:Int)-1) rfl rfl jB) ?_;have df:=(cp.dy [0,1,3,4,2]).cQ;refine .ae 3 rfl ?_;refine dW (I:=fun m E W=>∃ (n0:Value) (mh:List hx) (i:Int) (k6:List g_) (kp:List (Value×List Pos)),E=[(0,jq),(1,mf),(2,U d),(3,.func (.func kP) first.toArray cap.toArray),(8,n0),(9,ptr bL 0),(12,v3),(13,U i)]∧m=(i+1).toNat∧au az F w0 W [aS re 228 3 n0 mh,fa lA kp,ax bL [U (z.n:Int),zK.val,aE z.word] 228,aS e0 233 2 v3 z.x.2,A ew]∧(cZ (nR q d s kp) mh k6)∧(∀ x∈V,x∈kp)∧(mJ q d k6=mK q d z (i+1).toNat++mJ q d mr)∧(ra k6≤ra mr+rb (gZ (fE z.x.1)) (i+1).toNat)∧(-1≤i∧i < (z.x.2.length:Int))) ?_ ?_
        · refine ⟨_,_,⟨(v2:Value),((hq.take (hq.length-1)):List hx),(((z.x.2.length:Int)-1):Int),(mr:List g_),(V:List (Value×List Pos)),rfl,rfl,df,(by exact cr),(by exact fun x ag=>ag),Kw,jB,jB⟩,bm⟩
        · rintro _ _ fl ⟨n0,mh,i,k6,kp,rfl,rfl,cT,sQ,ym,By,DQ,ye⟩ f_;refine .go 4 rfl ?_;refine .bg (.ge rfl rfl) (fun du=>?_) fun du=>?_
          · refine .ae 1 rfl ?_;obtain ⟨g4,f13,i7,hg⟩:=cT.b4 3;obtain ⟨x2,jN,iu,c4,e3,nu,eG⟩:=aq.jG f13.ch underlying219 eN lv (k:=.i64) (n:=i) ((i).toNat) jB aV;refine .go 8 rfl ?_;refine .z (.indexAddr rfl rfl e3) ?_;obtain ⟨fR,yi,qm,kJ,lM,qB,oH,jF,F9⟩:=AQ Gj w5 c4;obtain ⟨vg,rfl,tl⟩:=CD w5 Kz kJ;have o2:fB x2.rune=ei fR.1:=(by rw [lM]; exact yR jF);have Bz:=xC fR.1;have Pf:(fB x2.rune).length≤4:=(by rw [o2]; exact Bz);have pP:0≤x2.rune∧x2.rune≤1114111:=(by rw [lM]; have:=jF.1; omega);have Gh:=I2 (q:=q) (d:=d) kJ;have oU:=I4 kJ;have Pg:=Fp fR.2;have Ph:=C6 sQ;have Pj:=I7 (gZ (fE z.x.1)) (i+1).toNat;refine .z (.cq eN rfl (fun _ e=>e▸eG) rfl) ?_;refine .ac (.alloc eN fun fs k3 dj dz g' c'=>?_);have eu:=(cT.cR dj dz c').n6;have f14:=eu.k 5;refine .ac (.store eN rfl rfl rfl rfl rfl f14 dn fun hy dp gY eW=>?_);have ff:=(eu.c8 5 dp eW.c2).n6;refine .go 5 rfl ?_;have f15:=ff.k 2;refine .a6 FF FB f15 ?_;have f16:=ff.k 5;refine .a6 rj hU f16 ?_;have f17:=ff.out dH cb;have f18:=ff.Fs (i:=1) rfl (ym _ Gm);refine .ac (.aF Jy rfl (Ko (w0:=hy) (q:=q) (s:=(fr q d (ea z.word))) (d) (x2.rune) (f17.mono (fun b ab=>⟨Nat.zero_le _,Nat.lt_of_lt_of_le (dD b ab) ff.mod.size⟩)) cP f18 cP aV aV aV) ?_);rintro v4 i_ ⟨⟨qf,aB,eH⟩,dM⟩;have en:=(ff.fz dM aB eH).n7;clear eH;obtain ⟨g5,f19,my,jw⟩:=en.b4 6;refine .go 5 rfl ?_;refine .ac (.aF Jz rfl (Kq (w0:=i_) (s:=(fL (q.length+1) d (fF d q (dY q.length d (fr q d (ea z.word))) x2.rune)))  (f19.ch.cB (Nat.zero_le _) f19.lt)) ?_);rintro _ kU ⟨⟨ox,e5,rfl⟩,eT⟩;have f':=en.ext eT;cases ox
            case true =>
             replace e5:=e5.symm;refine .z (.not rfl) ?_;refine .go 6 rfl ?_;refine .z (.hY (i-1) rfl rfl jB) ?_;have fi:=(f'.dy [0,1,2,3,4]).cQ;refine .ae 2 rfl ?_;exact (f_ _ _ _ ⟨(n0:Value),(mh:List hx),((i-1):Int),(k6:List g_),(kp:List (Value×List Pos)),rfl,rfl,fi,zI,zH,zF,zG,zJ⟩ jB).sub bm
            replace e5:=e5.symm;refine .z (.not rfl) ?_;refine .go 4 rfl ?_;have f20:=f'.k 5;refine .a6 rk aJ f20 ?_;refine .go 1 rfl ?_;have f21:=f'.k 2;refine .a6 FG dP f21 ?_;refine .a6 rj hU f20 ?_;refine .z (.v7 cY underlying9 rfl) ?_;refine .z (.uS rfl rfl vG) ?_;obtain ⟨g6,f22,mQ,p9⟩:=f'.b4 6;obtain ⟨eL,eM,kl⟩:=f22.shape;subst kl;refine .z (.build (vs:=#[(0,(U x2.to:Value)),(1,(.slice eL (fL (q.length+1) d (fF d q (dY q.length d (fr q d (ea z.word))) x2.rune)).length eM)),(2,aE (z.word++(fB x2.rune)))]) (v:=.agg #[U x2.to,(.slice eL (fL (q.length+1) d (fF d q (dY q.length d (fr q d (ea z.word))) x2.rune)).length eM),aE (z.word++(fB x2.rune))]) rfl (fun _=>by kernel_rfl)) ?_;refine .ac (.buildSlice [(.agg #[U x2.to,(.slice eL (fL (q.length+1) d (fF d q (dY q.length d (fr q d (ea z.word))) x2.rune)).length eM),aE (z.word++(fB x2.rune))]:Value)] underlying229 sE rfl rfl rfl b2 fun nV qJ gO gS kd gA=>?_);have lo:=aq.eD (enc:=re) gA ([(hx.mk x2.to (cK.mk eL (fL (q.length+1) d (fF d q (dY q.length d (fr q d (ea z.word))) x2.rune)).length eM) (z.word++(fB x2.rune)))]:List hx) 1 rfl rfl eS;have gG:=(f'.hF gO gS kd lo).n8;obtain ⟨g8,f23,mc,pb⟩:=gG.b4 0;have f24:=gG.gf 7 0;refine .ac (.append f23 underlying229 sE rfl A9 I6 rfl rfl (f24) ol fD fun v5 g7 wU dU j4 jL vI=>?_);have gz:=(pb _ _ _ _ j4 dU jL).n8;clear jL;have iI:=(gz.freeze (i:=6) rfl).n8;have jA:=(iI.aR [0,2,3,4,5,7] 1 6).n7;have ko:=(jA.ty (fa lA (kp++[((.slice eL (fL (q.length+1) d (fF d q (dY q.length d (fr q d (ea z.word))) x2.rune)).length eM),(fL (q.length+1) d (fF d q (dY q.length d (fr q d (ea z.word))) x2.rune)))])) 6 rfl (fun dV bG=>I5 bG)).n7;have Kr:=nR.push hd.1 sQ dI l_ Gi (sh:=cK.mk eL (fL (q.length+1) d (fF d q (dY q.length d (fr q d (ea z.word))) x2.rune)).length eM) (L:=(fL (q.length+1) d (fF d q (dY q.length d (fr q d (ea z.word))) x2.rune))) (wd:=z.word++fB x2.rune) lM oH jF rfl (by rw [o2]) tl vY qB;refine .go 5 rfl ?_;refine .z (.hY (i-1) rfl rfl jB) ?_;have oz:=(ko.dy [0,6,1,2,3]).cQ;refine .ae 2 rfl ?_;exact (f_ _ _ _ ⟨(v5:Value),((mh++[(hx.mk x2.to (cK.mk eL (fL (q.length+1) d (fF d q (dY q.length d (fr q d (ea z.word))) x2.rune)).length eM) (z.word++(fB x2.rune)))]):List hx),((i-1):Int),((k6++[g_.mk yi (fR.2,qm) (z.word++ei fR.1)]):List g_),((kp++[((.slice eL (fL (q.length+1) d (fF d q (dY q.length d (fr q d (ea z.word))) x2.rune)).length eM),(fL (q.length+1) d (fF d q (dY q.length d (fr q d (ea z.word))) x2.rune)))]):List (Value×List Pos)),rfl,rfl,oz,zI,zH,zF,zG,zJ⟩ jB).sub bm
          refine .ae 1 rfl ?_;have dS:=(cT.dy [0,1,4]).cx;refine .ae 3 rfl ?_;exact (b5 _ _ _ ⟨(n0:Value),(mh:List hx),(k6:List g_),(kp:List (Value×List Pos)),(ew:b3),rfl,rfl,dS,Ky,Kv,Ku,Kt,Ks⟩ Kx).sub bm
      refine .go 20 rfl ?_;have f8:=br.k 3;refine .a6 FE aJ f8 ?_;have f9:=ht.A8 p6 br.mod Gl;refine .ac (.aF Dl rfl (Dr (w0:=c9)  (z.n:Int) f9 (Nat.le_trans p3 br.mod.size) cP Gk (by first|assumption|(simp; done))) ?_);rintro v3 dC ⟨⟨ic,ah,b6⟩,b9⟩;have b8:=(br.fz b9 ah b6).cQ;clear b6;have uC:(nodeAt (fT s) (z.n:Int)).2=z.x.2:=(by rw [qa]);have vJ:=CC iv (z.n:Int);rw [uC] at vJ;have bT:au az F w0 dC [aS re 228 3 v2 (hq.take (hq.length-1)),fa lA V,A ew,ax bL [U (z.n:Int),zK.val,aE z.word] 228,aS e0 233 2 v3 z.x.2]:=(by rw [←uC]; exact b8);have bN:fp f dB (p' words q d)=fp f ew (mK q d z 0++mJ q d mr):=Ny fV (fun ao=>by first|exact C7 mB (qN.2 ao.2)|exact C8 mB (qN.2 ao.2)|exact absurd ao.1 (by simp [*]));have cj:l6 ok f ew (mK q d z 0++mJ q d mr):=Nz oK (fun ao=>by first|exact C7 mB (qN.2 ao.2)|exact C8 mB (qN.2 ao.2)|exact absurd ao.1 (by simp [*]));obtain ⟨g3,f10,jr,dE⟩:=bT.b4 4;refine .go 5 rfl ?_;refine .z (.ct underlying219 (f10.ch) rfl) ?_;refine .z (.hY ((z.x.2.length:Int)-1) rfl rfl jB) ?_;have cT:=(bT.dy [0,1,3,4,2]).cQ;refine .ae 3 rfl ?_;refine dW (I:=fun m E W=>∃ (n0:Value) (mh:List hx) (i:Int) (k6:List g_) (kp:List (Value×List Pos)),E=[(0,jq),(1,mf),(2,U d),(3,.func (.func kP) first.toArray cap.toArray),(8,n0),(9,ptr bL 0),(12,v3),(13,U i)]∧m=(i+1).toNat∧au az F w0 W [aS re 228 3 n0 mh,fa lA kp,ax bL [U (z.n:Int),zK.val,aE z.word] 228,aS e0 233 2 v3 z.x.2,A ew]∧(cZ (nR q d s kp) mh k6)∧(∀ x∈V,x∈kp)∧(mJ q d k6=mK q d z (i+1).toNat++mJ q d mr)∧(ra k6≤ra mr+rb (gZ (fE z.x.1)) (i+1).toNat)∧(-1≤i∧i < (z.x.2.length:Int))) ?_ ?_
      · refine ⟨_,_,⟨(v2:Value),((hq.take (hq.length-1)):List hx),(((z.x.2.length:Int)-1):Int),(mr:List g_),(V:List (Value×List Pos)),rfl,rfl,cT,(by exact cr),(by exact fun x ag=>ag),Kw,jB,jB⟩,bm⟩
      · rintro _ _ eQ ⟨n0,mh,i,k6,kp,rfl,rfl,cp,sQ,ym,By,DQ,ye⟩ f_;refine .go 4 rfl ?_;refine .bg (.ge rfl rfl) (fun cv=>?_) fun cv=>?_
        · refine .ae 1 rfl ?_;obtain ⟨g4,f11,i7,hg⟩:=cp.b4 3;obtain ⟨x2,hJ,iu,c4,e3,nu,eG⟩:=aq.jG f11.ch underlying219 eN lv (k:=.i64) (n:=i) ((i).toNat) jB aV;refine .go 8 rfl ?_;refine .z (.indexAddr rfl rfl e3) ?_;obtain ⟨fR,yi,qm,kJ,lM,qB,oH,jF,F9⟩:=AQ Gj w5 c4;obtain ⟨vg,rfl,tl⟩:=CD w5 Kz kJ;have o2:fB x2.rune=ei fR.1:=(by rw [lM]; exact yR jF);have Bz:=xC fR.1;have Pf:(fB x2.rune).length≤4:=(by rw [o2]; exact Bz);have pP:0≤x2.rune∧x2.rune≤1114111:=(by rw [lM]; have:=jF.1; omega);have Gh:=I2 (q:=q) (d:=d) kJ;have oU:=I4 kJ;have Pg:=Fp fR.2;have Ph:=C6 sQ;have Pj:=I7 (gZ (fE z.x.1)) (i+1).toNat;refine .z (.cq eN rfl (fun _ e=>e▸eG) rfl) ?_;refine .ac (.alloc eN fun fl jN cH du g' c'=>?_);have dS:=(cp.cR cH du c').n6;have f12:=dS.k 5;refine .ac (.store eN rfl rfl rfl rfl rfl f12 dn fun fs dj gY eW=>?_);have eu:=(dS.c8 5 dj eW.c2).n6;refine .go 5 rfl ?_;have f13:=eu.k 2;refine .a6 FF FB f13 ?_;have f14:=eu.k 5;refine .a6 rj hU f14 ?_;have f15:=eu.out dH cb;have f16:=eu.Fs (i:=1) rfl (ym _ Gm);refine .ac (.aF Jy rfl (Ko (w0:=fs) (q:=q) (s:=(fr q d (ea z.word))) (d) (x2.rune) (f15.mono (fun b ab=>⟨Nat.zero_le _,Nat.lt_of_lt_of_le (dD b ab) eu.mod.size⟩)) cP f16 cP aV aV aV) ?_);rintro v4 hy ⟨⟨qf,aB,eH⟩,dp⟩;have eo:=(eu.fz dp aB eH).n7;clear eH;obtain ⟨g5,f17,my,jw⟩:=eo.b4 6;refine .go 5 rfl ?_;refine .ac (.aF Jz rfl (Kq (w0:=hy) (s:=(fL (q.length+1) d (fF d q (dY q.length d (fr q d (ea z.word))) x2.rune)))  (f17.ch.cB (Nat.zero_le _) f17.lt)) ?_);rintro _ i_ ⟨⟨k3,dz,rfl⟩,dM⟩;have en:=eo.ext dM;cases k3
          case true =>
           replace dz:=dz.symm;refine .z (.not rfl) ?_;refine .go 6 rfl ?_;refine .z (.hY (i-1) rfl rfl jB) ?_;have f':=(en.dy [0,1,2,3,4]).cQ;refine .ae 2 rfl ?_;exact (f_ _ _ _ ⟨(n0:Value),(mh:List hx),((i-1):Int),(k6:List g_),(kp:List (Value×List Pos)),rfl,rfl,f',zI,zH,zF,zG,zJ⟩ jB).sub bm
          replace dz:=dz.symm;refine .z (.not rfl) ?_;refine .go 4 rfl ?_;have f18:=en.k 5;refine .a6 rk aJ f18 ?_;refine .go 1 rfl ?_;have f19:=en.k 2;refine .a6 FG dP f19 ?_;refine .a6 rj hU f18 ?_;refine .z (.v7 cY underlying9 rfl) ?_;refine .z (.uS rfl rfl vG) ?_;obtain ⟨g6,f20,mQ,p9⟩:=en.b4 6;obtain ⟨eL,eM,kl⟩:=f20.shape;subst kl;refine .z (.build (vs:=#[(0,(U x2.to:Value)),(1,(.slice eL (fL (q.length+1) d (fF d q (dY q.length d (fr q d (ea z.word))) x2.rune)).length eM)),(2,aE (z.word++(fB x2.rune)))]) (v:=.agg #[U x2.to,(.slice eL (fL (q.length+1) d (fF d q (dY q.length d (fr q d (ea z.word))) x2.rune)).length eM),aE (z.word++(fB x2.rune))]) rfl (fun _=>by kernel_rfl)) ?_;refine .ac (.buildSlice [(.agg #[U x2.to,(.slice eL (fL (q.length+1) d (fF d q (dY q.length d (fr q d (ea z.word))) x2.rune)).length eM),aE (z.word++(fB x2.rune))]:Value)] underlying229 sE rfl rfl rfl b2 fun kU ox eT e5 kd gA=>?_);have lo:=aq.eD (enc:=re) gA ([(hx.mk x2.to (cK.mk eL (fL (q.length+1) d (fF d q (dY q.length d (fr q d (ea z.word))) x2.rune)).length eM) (z.word++(fB x2.rune)))]:List hx) 1 rfl rfl eS;have fi:=(en.hF eT e5 kd lo).n8;obtain ⟨g8,f21,mc,pb⟩:=fi.b4 0;have f22:=fi.gf 7 0;refine .ac (.append f21 underlying229 sE rfl A9 I6 rfl rfl (f22) ol fD fun v5 g7 nV dU gO jL vI=>?_);have gG:=(pb _ _ _ _ gO dU jL).n8;clear jL;have gz:=(gG.freeze (i:=6) rfl).n8;have iI:=(gz.aR [0,2,3,4,5,7] 1 6).n7;have jA:=(iI.ty (fa lA (kp++[((.slice eL (fL (q.length+1) d (fF d q (dY q.length d (fr q d (ea z.word))) x2.rune)).length eM),(fL (q.length+1) d (fF d q (dY q.length d (fr q d (ea z.word))) x2.rune)))])) 6 rfl (fun dV bG=>I5 bG)).n7;have Kr:=nR.push hd.1 sQ dI l_ Gi (sh:=cK.mk eL (fL (q.length+1) d (fF d q (dY q.length d (fr q d (ea z.word))) x2.rune)).length eM) (L:=(fL (q.length+1) d (fF d q (dY q.length d (fr q d (ea z.word))) x2.rune))) (wd:=z.word++fB x2.rune) lM oH jF rfl (by rw [o2]) tl vY qB;refine .go 5 rfl ?_;refine .z (.hY (i-1) rfl rfl jB) ?_;have ko:=(jA.dy [0,6,1,2,3]).cQ;refine .ae 2 rfl ?_;exact (f_ _ _ _ ⟨(v5:Value),((mh++[(hx.mk x2.to (cK.mk eL (fL (q.length+1) d (fF d q (dY q.length d (fr q d (ea z.word))) x2.rune)).length eM) (z.word++(fB x2.rune)))]):List hx),((i-1):Int),((k6++[g_.mk yi (fR.2,qm) (z.word++ei fR.1)]):List g_),((kp++[((.slice eL (fL (q.length+1) d (fF d q (dY q.length d (fr q d (ea z.word))) x2.rune)).length eM),(fL (q.length+1) d (fF d q (dY q.length d (fr q d (ea z.word))) x2.rune)))]):List (Value×List Pos)),rfl,rfl,ko,zI,zH,zF,zG,zJ⟩ jB).sub bm
        refine .ae 1 rfl ?_;have df:=(cp.dy [0,1,4]).cx;refine .ae 3 rfl ?_;exact (b5 _ _ _ ⟨(n0:Value),(mh:List hx),(k6:List g_),(kp:List (Value×List Pos)),(ew:b3),rfl,rfl,df,Ky,Kv,Ku,Kt,Ks⟩ Kx).sub bm
     replace bq:=bq.symm;refine .go 23 rfl ?_;have f8:=br.k 3;refine .a6 FE aJ f8 ?_;have f9:=ht.A8 p6 br.mod Gl;refine .ac (.aF Dl rfl (Dr (w0:=c9)  (z.n:Int) f9 (Nat.le_trans p3 br.mod.size) cP Gk (by first|assumption|(simp; done))) ?_);rintro v3 dC ⟨⟨ic,ah,b6⟩,b9⟩;have b8:=(br.fz b9 ah b6).cQ;clear b6;have uC:(nodeAt (fT s) (z.n:Int)).2=z.x.2:=(by rw [qa]);have vJ:=CC iv (z.n:Int);rw [uC] at vJ;have bT:au az F w0 dC [aS re 228 3 v2 (hq.take (hq.length-1)),fa lA V,A ew,ax bL [U (z.n:Int),zK.val,aE z.word] 228,aS e0 233 2 v3 z.x.2]:=(by rw [←uC]; exact b8);have bN:fp f dB (p' words q d)=fp f ew (mK q d z 0++mJ q d mr):=Ny fV (fun ao=>by first|exact C7 mB (qN.2 ao.2)|exact C8 mB (qN.2 ao.2)|exact absurd ao.1 (by simp [*]));have cj:l6 ok f ew (mK q d z 0++mJ q d mr):=Nz oK (fun ao=>by first|exact C7 mB (qN.2 ao.2)|exact C8 mB (qN.2 ao.2)|exact absurd ao.1 (by simp [*]));obtain ⟨g3,f10,jr,dE⟩:=bT.b4 4;refine .go 5 rfl ?_;refine .z (.ct underlying219 (f10.ch) rfl) ?_;refine .z (.hY ((z.x.2.length:Int)-1) rfl rfl jB) ?_;have cT:=(bT.dy [0,1,3,4,2]).cQ;refine .ae 3 rfl ?_;refine dW (I:=fun m E W=>∃ (n0:Value) (mh:List hx) (i:Int) (k6:List g_) (kp:List (Value×List Pos)),E=[(0,jq),(1,mf),(2,U d),(3,.func (.func kP) first.toArray cap.toArray),(8,n0),(9,ptr bL 0),(12,v3),(13,U i)]∧m=(i+1).toNat∧au az F w0 W [aS re 228 3 n0 mh,fa lA kp,ax bL [U (z.n:Int),zK.val,aE z.word] 228,aS e0 233 2 v3 z.x.2,A ew]∧(cZ (nR q d s kp) mh k6)∧(∀ x∈V,x∈kp)∧(mJ q d k6=mK q d z (i+1).toNat++mJ q d mr)∧(ra k6≤ra mr+rb (gZ (fE z.x.1)) (i+1).toNat)∧(-1≤i∧i < (z.x.2.length:Int))) ?_ ?_
     · refine ⟨_,_,⟨(v2:Value),((hq.take (hq.length-1)):List hx),(((z.x.2.length:Int)-1):Int),(mr:List g_),(V:List (Value×List Pos)),rfl,rfl,cT,(by exact cr),(by exact fun x ag=>ag),Kw,jB,jB⟩,bm⟩
     · rintro _ _ eQ ⟨n0,mh,i,k6,kp,rfl,rfl,cp,sQ,ym,By,DQ,ye⟩ f_;refine .go 4 rfl ?_;refine .bg (.ge rfl rfl) (fun cG=>?_) fun cG=>?_
       · refine .ae 1 rfl ?_;obtain ⟨g4,f11,i7,hg⟩:=cp.b4 3;obtain ⟨x2,gX,iu,c4,e3,nu,eG⟩:=aq.jG f11.ch underlying219 eN lv (k:=.i64) (n:=i) ((i).toNat) jB aV;refine .go 8 rfl ?_;refine .z (.indexAddr rfl rfl e3) ?_;obtain ⟨fR,yi,qm,kJ,lM,qB,oH,jF,F9⟩:=AQ Gj w5 c4;obtain ⟨vg,rfl,tl⟩:=CD w5 Kz kJ;have o2:fB x2.rune=ei fR.1:=(by rw [lM]; exact yR jF);have Bz:=xC fR.1;have Pf:(fB x2.rune).length≤4:=(by rw [o2]; exact Bz);have pP:0≤x2.rune∧x2.rune≤1114111:=(by rw [lM]; have:=jF.1; omega);have Gh:=I2 (q:=q) (d:=d) kJ;have oU:=I4 kJ;have Pg:=Fp fR.2;have Ph:=C6 sQ;have Pj:=I7 (gZ (fE z.x.1)) (i+1).toNat;refine .z (.cq eN rfl (fun _ e=>e▸eG) rfl) ?_;refine .ac (.alloc eN fun fl hJ cH cv g' c'=>?_);have dS:=(cp.cR cH cv c').n6;have f12:=dS.k 5;refine .ac (.st eN f12 fun fs dj eW=>?_);have eu:=(dS.c8 5 dj eW.c2).n6;refine .go 5 rfl ?_;have f13:=eu.k 2;refine .a6 FF FB f13 ?_;have f14:=eu.k 5;refine .a6 rj hU f14 ?_;have f15:=eu.out dH cb;have f16:=eu.Fs (i:=1) rfl (ym _ Gm);refine .ac (.aF Jy rfl (Ko (w0:=fs) (q:=q) (s:=(fr q d (ea z.word))) (d) (x2.rune) (f15.mono (fun b ab=>⟨Nat.zero_le _,Nat.lt_of_lt_of_le (dD b ab) eu.mod.size⟩)) cP f16 cP aV aV aV) ?_);rintro v4 hy ⟨⟨qf,aB,eH⟩,dp⟩;have eo:=(eu.fz dp aB eH).n7;clear eH;obtain ⟨g5,f17,my,jw⟩:=eo.b4 6;refine .go 5 rfl ?_;refine .ac (.aF Jz rfl (Kq (w0:=hy) (s:=(fL (q.length+1) d (fF d q (dY q.length d (fr q d (ea z.word))) x2.rune)))  (f17.ch.cB (Nat.zero_le _) f17.lt)) ?_);rintro _ i_ ⟨⟨jN,du,rfl⟩,dM⟩;have en:=eo.ext dM;cases jN
         case true =>
          replace du:=du.symm;refine .z (.not rfl) ?_;refine .go 6 rfl ?_;refine .z (.hY (i-1) rfl rfl jB) ?_;have f':=(en.dy [0,1,2,3,4]).cQ;refine .ae 2 rfl ?_;exact (f_ _ _ _ ⟨(n0:Value),(mh:List hx),((i-1):Int),(k6:List g_),(kp:List (Value×List Pos)),rfl,rfl,f',zI,zH,zF,zG,zJ⟩ jB).sub bm
         replace du:=du.symm;refine .z (.not rfl) ?_;refine .go 4 rfl ?_;have f18:=en.k 5;refine .a6 rk aJ f18 ?_;refine .go 1 rfl ?_;have f19:=en.k 2;refine .a6 FG dP f19 ?_;refine .a6 rj hU f18 ?_;refine .z (.v7 cY underlying9 rfl) ?_;refine .z (.uS rfl rfl vG) ?_;obtain ⟨g6,f20,mQ,p9⟩:=en.b4 6;obtain ⟨eL,eM,kl⟩:=f20.shape;subst kl;refine .z (.build (vs:=#[(0,(U x2.to:Value)),(1,(.slice eL (fL (q.length+1) d (fF d q (dY q.length d (fr q d (ea z.word))) x2.rune)).length eM)),(2,aE (z.word++(fB x2.rune)))]) (v:=.agg #[U x2.to,(.slice eL (fL (q.length+1) d (fF d q (dY q.length d (fr q d (ea z.word))) x2.rune)).length eM),aE (z.word++(fB x2.rune))]) rfl (fun _=>by kernel_rfl)) ?_;refine .ac (.buildSlice [(.agg #[U x2.to,(.slice eL (fL (q.length+1) d (fF d q (dY q.length d (fr q d (ea z.word))) x2.rune)).length eM),aE (z.word++(fB x2.rune))]:Value)] underlying229 sE rfl rfl rfl b2 fun kU k3 eT dz kd gA=>?_);have lo:=aq.eD (enc:=re) gA ([(hx.mk x2.to (cK.mk eL (fL (q.length+1) d (fF d q (dY q.length d (fr q d (ea z.word))) x2.rune)).length eM) (z.word++(fB x2.rune)))]:List hx) 1 rfl rfl eS;have fi:=(en.hF eT dz kd lo).n8;obtain ⟨g8,f21,mc,pb⟩:=fi.b4 0;have f22:=fi.gf 7 0;refine .ac (.append f21 underlying229 sE rfl A9 I6 rfl rfl (f22) ol fD fun v5 g7 nV dU gO jL vI=>?_);have gG:=(pb _ _ _ _ gO dU jL).n8;clear jL;have gz:=(gG.freeze (i:=6) rfl).n8;have iI:=(gz.aR [0,2,3,4,5,7] 1 6).n7;have jA:=(iI.ty (fa lA (kp++[((.slice eL (fL (q.length+1) d (fF d q (dY q.length d (fr q d (ea z.word))) x2.rune)).length eM),(fL (q.length+1) d (fF d q (dY q.length d (fr q d (ea z.word))) x2.rune)))])) 6 rfl (fun dV bG=>I5 bG)).n7;have Kr:=nR.push hd.1 sQ dI l_ Gi (sh:=cK.mk eL (fL (q.length+1) d (fF d q (dY q.length d (fr q d (ea z.word))) x2.rune)).length eM) (L:=(fL (q.length+1) d (fF d q (dY q.length d (fr q d (ea z.word))) x2.rune))) (wd:=z.word++fB x2.rune) lM oH jF rfl (by rw [o2]) tl vY qB;refine .go 5 rfl ?_;refine .z (.hY (i-1) rfl rfl aa) ?_;have ko:=(jA.dy [0,6,1,2,3]).cQ;refine .ae 2 rfl ?_;exact (f_ _ _ _ ⟨(v5:Value),((mh++[(hx.mk x2.to (cK.mk eL (fL (q.length+1) d (fF d q (dY q.length d (fr q d (ea z.word))) x2.rune)).length eM) (z.word++(fB x2.rune)))]):List hx),((i-1):Int),((k6++[g_.mk yi (fR.2,qm) (z.word++ei fR.1)]):List g_),((kp++[((.slice eL (fL (q.length+1) d (fF d q (dY q.length d (fr q d (ea z.word))) x2.rune)).length eM),(fL (q.length+1) d (fF d q (dY q.length d (fr q d (ea z.word))) x2.rune)))]):List (Value×List Pos)),rfl,rfl,ko,zI,zH,zF,zG,zJ⟩ jB).sub bm
       refine .ae 1 rfl ?_;have df:=(cp.dy [0,1,4]).cx;refine .ae 3 rfl ?_;exact (b5 _ _ _ ⟨(n0:Value),(mh:List hx),(k6:List g_),(kp:List (Value×List Pos)),(ew:b3),rfl,rfl,df,Ky,Kv,Ku,Kt,Ks⟩ Kx).sub bm
   refine .ae 3 rfl ?_;refine kN func100 rfl ?_;have bl:=(bb.dy [2]).cf;have oD:(fp f dB (p' words q d)).1=ew:=(by first|(rw [WG fV ⟨Ao,qN.1 (Fu mB mB)⟩ mB]; done)|(rw [fV,WK v_ jB]; rfl));obtain ⟨cA,cU,cV,cM⟩:=bl.fin;exact al.mk ⟨rfl,cA,cU,oD▸cV,cM⟩
end Go.Proofs
namespace Go.Proofs
open Tryz
open Go.aH Go.ak
theorem alT{w0:World}{a:b1}{b:b1}:
 bI 90 #[.agg #[U a.ck,aE a.word],.agg #[U b.ck,aE b.word]] w0 (al λaC ai=>aC=U (ak.NB a b)/\Ext w0 ai):=by
 have bA:=eB w0;refine bR func90 rfl ntmps90 rfl (.go 2 rfl (.ac (.box [U a.ck,aE a.word] rfl rfl λai aK av aG cr aW=>have bJ:=bA.ext av;.ac (.box [U b.ck,aE b.word] rfl rfl λa1 aR aA aL eg bQ=>have f1:=aW.ext aA;have bN:=bJ.ext aA;.ae 3 rfl (eV (λi=>Nat.beq i 4 || Nat.beq i 9 || Nat.beq i 10 || Nat.beq i 11) 13 (λan=>Mod (b_ 0) a1 an) mixed λbp aP=>have cj:=bN.ext aP;have jy:Mod (b_ 0) a1 bp:=Mod.gj aP;⟨jy,?_⟩)))));refine .z rfl (.fieldAddr x3 rfl) (.z rfl (.cg aJ rfl (λ_ ao=>(f1.cell 0 _ rfl).bF ao aa)) (.z rfl (.fieldAddr x3 rfl) (.z rfl (.cg aJ rfl (λ_ ao=>(bQ.cell 0 _ rfl).bF ao aa)) (.ac rfl (.aF X7 rfl (Yl (w0:=bp)  (a.ck) (b.ck) ) ?_)))));rintro _ bW ⟨rfl,aY⟩;have eK:=cj.ext aY;have jo:=jy.ext aY;refine⟨.inr jo,.z rfl (.fieldAddr zm rfl) (.z rfl (.cg dP rfl (λ_ ao=>(f1.cell 1 _ rfl).bF ao aa)) (.z rfl (.fieldAddr zm rfl) (.z rfl (.cg dP rfl (λ_ ao=>(bQ.cell 1 _ rfl).bF ao aa)) (.ac rfl (.aF N7 rfl (Od (w0:=bW)  a.word b.word ) ?_)))))⟩;rintro _ cF ⟨rfl,bt,nq⟩;have fH:=eK.ext bt;have mx:=jo.ext bt;refine⟨.inr mx,.ac rfl (.buildSlice [(U (ak.pA a.ck b.ck):Value),(U (Lib.compareBytes a.word b.word):Value)] underlying57 aJ rfl rfl rfl b2 λc9 bz b9 aX fA cN=>have iH:=fH.ext b9;have lR:=mx.ext b9;⟨.inr lR,(have cz:=aq.eD (enc:=aH.encI) cN ([(ak.pA a.ck b.ck),(Lib.compareBytes a.word b.word)]:List Int) 2 rfl rfl eS;.ac rfl (.aF X6 rfl (Ym (w0:=c9) (vals:=[(ak.pA a.ck b.ck),(Lib.compareBytes a.word b.word)])  ((cz).cB (Nat.zero_le _) aa)) ?_))⟩)⟩;rintro _ dC ⟨rfl,cH⟩;have kn:=iH.ext cH;have ll:=lR.ext cH;exact⟨.inr ll,.gd 1 rfl (.nil (aM func90 rfl rfl (al.mk ⟨(cS dw),kn⟩)))⟩
theorem alU{w0:World}{a:b1}{b:b1}:
 bI 44 #[.agg #[U a.ck,aE a.word],.agg #[U b.ck,aE b.word]] w0 (al λaC ai=>(∃cu:Bool,cu=(ak.oo a b)/\aC=.bool cu)/\Ext w0 ai):=by
 have bA:=eB w0;refine bR func44 rfl ntmps44 rfl (.go 2 rfl (.ac (.box [U a.ck,aE a.word] rfl rfl λai aK av aG cr aW=>have bJ:=bA.ext av;.ac (.box [U b.ck,aE b.word] rfl rfl λa1 aR aA aL eg bQ=>have f1:=aW.ext aA;have bN:=bJ.ext aA;.go 4 rfl (.z (.cq gx rfl (λ_ e=>e▸f1.row) rfl) ?_)))));refine .z (.cq gx rfl (λ_ e=>e▸bQ.row) rfl) ?_;refine .ac (.aF ajq rfl (alT (w0:=a1) (a:=a) (b:=b)  ) ?_);rintro _ bp ⟨rfl,aP⟩;have cj:=bN.ext aP;exact .ee (.lt rfl rfl) λbz aX=>.ae 2 rfl (aM func44 rfl rfl (al.mk ⟨⟨_,(by first|simp only[ak.oo, *]|(exfalso;omega)),rfl⟩,cj⟩))
end Go.Proofs
namespace Go.Proofs
open Tryz
open Go.aH Go.ak
theorem w6{p:Prop}(h:p:=by first|exact ahY (by first|exact WL|exact WM aa|exact WN bh)|(symm;exact(by first|exact WL|exact WM aa|exact WN bh))|exact ahZ (I8 bh aa bh)|(rw[(I8 bh aa bh),<-I9 (s:=s) bh];assumption)|(exfalso;omega)):p:=h
theorem Y8{p:Prop}(h:p:=by omega):p:=h
theorem alV{w0:World}{jq:Value}{gT e':Nat}{g:List cw}(s:aj)(k:Int)(qH:ht 0 w0 gT e' jq g)(x8:e'<=w0.heap.size)(yk:bY k)(aT:s.length<=1000000):
 bI 99 #[jq,aE s,U k] w0 (al λaC ai=>∃eP gk,aC=.tuple #[eP,gk]/\aq iO ai (dq w0.heap.size ai.heap.size) eP (ji g s k)/\(∃cu:Bool,cu=(pJ g s k)/\gk=.bool cu)/\Ext w0 ai):=by
 have bA:=eB w0;refine bR func99 rfl ntmps99 rfl (have pP:=qH;.go 9 rfl ?_);rcases qH with ⟨ef,r2⟩|⟨aK,x9,iT,ef,r2,Dp,Dq,x_⟩
 . subst ef;try subst r2
   exact .z (.og underlying99 rfl rfl) (.ae 20 rfl (cJ func99 rfl rfl rfl (al.mk ⟨_,_,rfl,(aq.cast aq.nil w6),⟨_,w6,rfl⟩,bA⟩)))
 . subst ef;refine .z (.og underlying99 rfl rfl) (.go 2 rfl (.bg (.lt rfl rfl) (λaG=>?_) λaG=>?_))
   . exact .ae 17 rfl (cJ func99 rfl rfl rfl (al.mk ⟨_,_,rfl,(aq.cast aq.nil w6),⟨_,w6,rfl⟩,bA⟩))
   refine .go 3 rfl (.bg (.gt rfl rfl) (λaL=>?_) λaL=>?_)
   . exact .ae 13 rfl (cJ func99 rfl rfl rfl (al.mk ⟨_,_,rfl,(aq.cast aq.nil w6),⟨_,w6,rfl⟩,bA⟩))
   refine .go 3 rfl (.ac (.aF N9 rfl (Of (w0:=w0)  s aV) ?_));rintro _ ai ⟨⟨bL,aX,rfl⟩,av⟩;have bJ:=bA.ext av;have hh:=av.size;cases bL
   case true =>
    replace aX:=aX.symm;refine .z (.not rfl) (.go 7 rfl (.ac (.aF ajz rfl (aj9 (w0:=ai)  s (by first|assumption|omega|(simp;done))) ?_)));rintro _ a1 ⟨v1,_,rfl,h1,⟨cE,bq,rfl⟩,aA⟩;have bN:=bJ.ext aA;exact .ae 5 rfl (cJ func99 rfl rfl rfl (al.mk ⟨_,_,rfl,(aq.cast (h1.cB Y8 Y8) w6),⟨_,w6,rfl⟩,bN⟩))
   replace aX:=aX.symm;exact .z (.not rfl) (.ae 8 rfl (cJ func99 rfl rfl rfl (al.mk ⟨_,_,rfl,(aq.cast aq.nil w6),⟨_,w6,rfl⟩,bJ⟩)))
theorem rr{p:Prop}(h:p:=by first|exact .inl rfl|exact .inr bh):p:=h
theorem ny{p:Prop}(h:p:=by assumption):p:=h
theorem alW{w0:World}{F:Nat->Prop}{e7 e8 dh ru pC kF:Nat}{l:List b1}{more:Bool}(x:aj)(d batch:Int)(first:Bool)(after:b1)(hd:bY d)(Y9:bY batch)(KA:bY after.ck)(BB:after.word.length<=1000000)(bf:(bk (R:=az) [qC (R:=az) 47 33 4 e7 e8 (l,more),ax dh [U d] 3,ax ru [.bool first] 4,ax pC [U after.ck,aE after.word] 33,ax kF [U batch] 3]).p F w0)(bs:∀b,F b->b<w0.heap.size)(FL:l.length<=1000000):
 bI 101 #[aE x,ptr dh 0,ptr ru 0,ptr pC 0,ptr e7 0,ptr kF 0,ptr e8 0] w0 (al λaC ai=>aC=.bool (mu first after batch d (l,more) x).2/\Mod F w0 ai/\∃bu,(bk (R:=az) [qC (R:=az) 47 33 4 e7 e8 ((mu first after batch d (l,more) x).1),ax dh [U d] 3,ax ru [.bool first] 4,ax pC [U after.ck,aE after.word] 33,ax kF [U batch] 3]).p bu ai/\∀b,bu b->b<ai.heap.size/\(F b\/w0.heap.size<=b)):=by
 have dO:=au.hr bf (λb ab=>⟨bs b ab,id⟩) (λ_ h=>h.elim);have bw:=(dO.u 0 []).cQ;obtain⟨fI,a7⟩:=bw.fM 0;change au az F w0 w0 [bk [ax e7 [fI] 47,aS eJ 33 2 fI ((l,more).1),ax e8 [.bool (l,more).2] 4],ax dh [U d] 3,ax ru [.bool first] 4,ax pC [U after.ck,aE after.word] 33,ax kF [U batch] 3] at a7;have bd:=(a7.u 0 [1,2,3,4]).n7;have aZ:au az F w0 w0 [ax dh [U d] 3,ax ru [.bool first] 4,ax pC [U after.ck,aE after.word] 33,ax kF [U batch] 3,ax e7 [fI] 47,aS eJ 33 2 fI l,ax e8 [.bool more] 4]:=bd;refine bR func101 rfl ntmps101 rfl (have f1:=aZ.k 0;.go 6 rfl (.z (.fU aJ f1) ?_));refine .go 1 rfl (.z (.build (vs:=#[(0,(U d:Value)),(1,aE x)]) (v:=.agg #[U d,aE x]) rfl (λ_=>by kernel_rfl)) (.ac (.alloc gx λai aK av aG cr aW=>?_)));have a_:=(aZ.cR av aG aW).n8;have f2:=a_.k 7;refine .ac (.st gx f2 λa1 aA bQ=>?_);have bl:=(a_.c8 7 aA bQ.c2).n8;have f3:=bl.k 1;refine .go 5 rfl (.z (.fU fh f3) ?_)
 cases first
 case true =>
  refine .z (.not rfl) (have f4:=bl.k 4;.go 11 rfl (.z (.fU tr f4) ?_));obtain⟨g1,f5,cz,bC⟩:=bl.b4 5;refine .z (.ct underlying47 (f5.ch) rfl) (have f6:=bl.k 3;.z (.fU aJ f6) (.gl (.eq rfl rfl) (λaL=>?_) λaL=>?_))
  . refine .ae 2 rfl (have f7:=bl.k 6;.go 2 rfl (.ac (.store fh rfl rfl rfl rfl rfl f7 dn λbp aP fA cN=>?_)));have bM:=(bl.c8 6 aP cN.c1).n8;have f8:=bM.k 6;refine .go 4 rfl (.z (.fU fh f8) (.z (.not rfl) ?_));refine .ae 2 rfl (aM func101 rfl rfl ?_);have bD:=(bM.bz [0,1,2,3,7] 4 5 6).n6;have bH:au az F w0 bp [ax dh [U d] 3,ax ru [.bool true] 4,ax pC [U after.ck,aE after.word] 33,ax kF [U batch] 3,ax aK [U d,aE x] 33,qC 47 33 4 e7 e8 (l,true)]:=bD.fy fI (i:=5) rfl;have br:=(bH.cE [4] 5 0 1 2 3).bO;have bP:=(br.dy [1]).cf;obtain⟨cA,cU,cV,cM⟩:=bP.fin;have n1:mu true after batch d (l,more) x=((l,true),false):=(by first|exact xR ny|exact xS rr ny|exact xT rr ny);exact al.mk ⟨by rw[n1];rfl,cA,cU,by rw[n1];exact cV,cM⟩
  refine .go 4 rfl (.z (.fU tr f4) (have f7:=bl.k 7;.z (.cq gx rfl (λ_ e=>e▸f7.row) rfl) ?_));refine .ac (.buildSlice [(.agg #[U d,aE x]:Value)] underlying47 gx rfl rfl rfl b2 λbp bz aP aX fA cN=>?_);have dr:=aq.eD (enc:=eJ) cN ([(b1.mk d x)]:List b1) 1 rfl rfl eS;have bD:=(bl.hF aP aX fA dr).h3;obtain⟨g3,f8,e_,cy⟩:=bD.b4 5;have f9:=bD.gf 8 0;refine .ac (.append f8 underlying47 gx rfl oN wG rfl rfl (f9) ol fD λv1 g2 bW cc aY b6 g'=>?_);have bH:=(cy _ _ _ _ aY cc b6).h3;clear b6;obtain⟨g4,f10,gE,dE⟩:=bH.b4 5;obtain⟨bZ,b0,ef⟩:=f10.shape;subst ef;have f11:=bH.k 4;refine .ac (.store tr rfl rfl rfl rfl rfl f11 dn λcF bt gY c'=>have br:=(bH.c8 4 bt c'.c1).h3;have f12:=br.k 6;.go 4 rfl (.z (.fU fh f12) ?_));cases more
  case true =>
   refine .z (.not rfl) (.ae 2 rfl (aM func101 rfl rfl ?_));have bP:=(br.bz [0,1,2,3,7,8] 4 5 6).n7;have b8:au az F w0 cF [ax dh [U d] 3,ax ru [.bool true] 4,ax pC [U after.ck,aE after.word] 33,ax kF [U batch] 3,ax aK [U d,aE x] 33,fa eJ [((.slice (some ⟨bz,0,none⟩) 1 1),[(b1.mk d x)])],qC 47 33 4 e7 e8 ((l++[(b1.mk d x)]),true)]:=bP.fy (.slice bZ (l++[(b1.mk d x)]).length b0) (i:=6) rfl;have bT:=(b8.cE [4,5] 6 0 1 2 3).cx;have cp:=(bT.dy [2]).cf;obtain⟨cA,cU,cV,cM⟩:=cp.fin;have n1:mu true after batch d (l,true) x=(((l++[(b1.mk d x)]),true),false):=(by first|exact xR ny|exact xS rr ny|exact xT rr ny);exact al.mk ⟨by rw[n1];rfl,cA,cU,by rw[n1];exact cV,cM⟩
  refine .z (.not rfl) (.ae 2 rfl (aM func101 rfl rfl ?_));have bP:=(br.bz [0,1,2,3,7,8] 4 5 6).n7;have b8:au az F w0 cF [ax dh [U d] 3,ax ru [.bool true] 4,ax pC [U after.ck,aE after.word] 33,ax kF [U batch] 3,ax aK [U d,aE x] 33,fa eJ [((.slice (some ⟨bz,0,none⟩) 1 1),[(b1.mk d x)])],qC 47 33 4 e7 e8 ((l++[(b1.mk d x)]),false)]:=bP.fy (.slice bZ (l++[(b1.mk d x)]).length b0) (i:=6) rfl;have bT:=(b8.cE [4,5] 6 0 1 2 3).cx;have cp:=(bT.dy [2]).cf;obtain⟨cA,cU,cV,cM⟩:=cp.fin;have n1:mu true after batch d (l,false) x=(((l++[(b1.mk d x)]),false),true):=(by first|exact xR ny|exact xS rr ny|exact xT rr ny);exact al.mk ⟨by rw[n1];rfl,cA,cU,by rw[n1];exact cV,cM⟩
 refine .z (.not rfl) (have f4:=bl.k 2;.go 1 rfl (.z (.cq gx rfl (λ_ e=>e▸f4.row) rfl) ?_));have f5:=bl.k 7;refine .z (.cq gx rfl (λ_ e=>e▸f5.row) rfl) ?_;refine .ac (.aF ajl rfl (alU (w0:=a1) (a:=(b1.mk after.ck after.word)) (b:=(b1.mk d x))  ) ?_);rintro _ bp ⟨⟨aR,aL,rfl⟩,aP⟩;have bM:=bl.ext aP;cases aR
 case true =>
  replace aL:=aL.symm;refine .z (.not rfl) (have f6:=bM.k 4;.go 6 rfl (.z (.fU tr f6) ?_));obtain⟨g1,f7,cz,bC⟩:=bM.b4 5;refine .z (.ct underlying47 (f7.ch) rfl) (have f8:=bM.k 3;.z (.fU aJ f8) (.gl (.eq rfl rfl) (λaX=>?_) λaX=>?_))
  . refine .ae 2 rfl (have f9:=bM.k 6;.go 2 rfl (.ac (.store fh rfl rfl rfl rfl rfl f9 dn λbW aY fA cN=>?_)));have bD:=(bM.c8 6 aY cN.c1).n8;have f10:=bD.k 6;refine .go 4 rfl (.z (.fU fh f10) (.z (.not rfl) ?_));refine .ae 2 rfl (aM func101 rfl rfl ?_);have bH:=(bD.bz [0,1,2,3,7] 4 5 6).n6;have br:au az F w0 bW [ax dh [U d] 3,ax ru [.bool false] 4,ax pC [U after.ck,aE after.word] 33,ax kF [U batch] 3,ax aK [U d,aE x] 33,qC 47 33 4 e7 e8 (l,true)]:=bH.fy fI (i:=5) rfl;have bP:=(br.cE [4] 5 0 1 2 3).bO;have b8:=(bP.dy [1]).cf;obtain⟨cA,cU,cV,cM⟩:=b8.fin;have n1:mu false after batch d (l,more) x=((l,true),false):=(by first|exact xR ny|exact xS rr ny|exact xT rr ny);exact al.mk ⟨by rw[n1];rfl,cA,cU,by rw[n1];exact cV,cM⟩
  refine .go 4 rfl (.z (.fU tr f6) (have f9:=bM.k 7;.z (.cq gx rfl (λ_ e=>e▸f9.row) rfl) ?_));refine .ac (.buildSlice [(.agg #[U d,aE x]:Value)] underlying47 gx rfl rfl rfl b2 λbW bL aY bq fA cN=>?_);have dr:=aq.eD (enc:=eJ) cN ([(b1.mk d x)]:List b1) 1 rfl rfl eS;have bH:=(bM.hF aY bq fA dr).h3;obtain⟨g3,f10,e_,cy⟩:=bH.b4 5;have f11:=bH.gf 8 0;refine .ac (.append f10 underlying47 gx rfl oN wG rfl rfl (f11) ol fD λv1 g2 cF cc bt b6 g'=>?_);have br:=(cy _ _ _ _ bt cc b6).h3;clear b6;obtain⟨g4,f12,gE,dE⟩:=br.b4 5;obtain⟨bZ,b0,ef⟩:=f12.shape;subst ef;have f13:=br.k 4;refine .ac (.st tr f13 λc9 b9 c'=>?_);have bP:=(br.c8 4 b9 c'.c1).h3;have f14:=bP.k 6;refine .go 4 rfl (.z (.fU fh f14) ?_);cases more
  case true =>
   refine .z (.not rfl) (.ae 2 rfl (aM func101 rfl rfl ?_));have b8:=(bP.bz [0,1,2,3,7,8] 4 5 6).n7;have bT:au az F w0 c9 [ax dh [U d] 3,ax ru [.bool false] 4,ax pC [U after.ck,aE after.word] 33,ax kF [U batch] 3,ax aK [U d,aE x] 33,fa eJ [((.slice (some ⟨bL,0,none⟩) 1 1),[(b1.mk d x)])],qC 47 33 4 e7 e8 ((l++[(b1.mk d x)]),true)]:=b8.fy (.slice bZ (l++[(b1.mk d x)]).length b0) (i:=6) rfl;have cp:=(bT.cE [4,5] 6 0 1 2 3).cx;have cT:=(cp.dy [2]).cf;obtain⟨cA,cU,cV,cM⟩:=cT.fin;have n1:mu false after batch d (l,true) x=(((l++[(b1.mk d x)]),true),false):=(by first|exact xR ny|exact xS rr ny|exact xT rr ny);exact al.mk ⟨by rw[n1];rfl,cA,cU,by rw[n1];exact cV,cM⟩
  refine .z (.not rfl) (.ae 2 rfl (aM func101 rfl rfl ?_));have b8:=(bP.bz [0,1,2,3,7,8] 4 5 6).n7;have bT:au az F w0 c9 [ax dh [U d] 3,ax ru [.bool false] 4,ax pC [U after.ck,aE after.word] 33,ax kF [U batch] 3,ax aK [U d,aE x] 33,fa eJ [((.slice (some ⟨bL,0,none⟩) 1 1),[(b1.mk d x)])],qC 47 33 4 e7 e8 ((l++[(b1.mk d x)]),false)]:=b8.fy (.slice bZ (l++[(b1.mk d x)]).length b0) (i:=6) rfl;have cp:=(bT.cE [4,5] 6 0 1 2 3).cx;have cT:=(cp.dy [2]).cf;obtain⟨cA,cU,cV,cM⟩:=cT.fin;have n1:mu false after batch d (l,false) x=(((l++[(b1.mk d x)]),false),true):=(by first|exact xR ny|exact xS rr ny|exact xT rr ny);exact al.mk ⟨by rw[n1];rfl,cA,cU,by rw[n1];exact cV,cM⟩
 replace aL:=aL.symm;refine .z (.not rfl) (have f6:=bM.k 6;.go 8 rfl (.z (.fU fh f6) ?_));cases more
 case true =>
  refine .z (.not rfl) (.ae 2 rfl (aM func101 rfl rfl ?_));have bD:=(bM.bz [0,1,2,3,7] 4 5 6).n6;have bH:au az F w0 bp [ax dh [U d] 3,ax ru [.bool false] 4,ax pC [U after.ck,aE after.word] 33,ax kF [U batch] 3,ax aK [U d,aE x] 33,qC 47 33 4 e7 e8 (l,true)]:=bD.fy fI (i:=5) rfl;have br:=(bH.cE [4] 5 0 1 2 3).bO;have bP:=(br.dy [1]).cf;obtain⟨cA,cU,cV,cM⟩:=bP.fin;have n1:mu false after batch d (l,true) x=((l,true),false):=(by first|exact xR ny|exact xS rr ny|exact xT rr ny);exact al.mk ⟨by rw[n1];rfl,cA,cU,by rw[n1];exact cV,cM⟩
 refine .z (.not rfl) (.ae 2 rfl (aM func101 rfl rfl ?_));have bD:=(bM.bz [0,1,2,3,7] 4 5 6).n6;have bH:au az F w0 bp [ax dh [U d] 3,ax ru [.bool false] 4,ax pC [U after.ck,aE after.word] 33,ax kF [U batch] 3,ax aK [U d,aE x] 33,qC 47 33 4 e7 e8 (l,false)]:=bD.fy fI (i:=5) rfl;have br:=(bH.cE [4] 5 0 1 2 3).bO;have bP:=(br.dy [1]).cf;obtain⟨cA,cU,cV,cM⟩:=bP.fin;have n1:mu false after batch d (l,false) x=((l,false),true):=(by first|exact xR ny|exact xS rr ny|exact xT rr ny);exact al.mk ⟨by rw[n1];rfl,cA,cU,by rw[n1];exact cV,cM⟩
theorem alX(e7 e8 dh ru pC kF:Nat)(d batch:Int)(first:Bool)(after:b1)(hd:bY d)(Y9:bY batch)(KA:bY after.ck)(BB:after.word.length<=1000000):WE Tryz.prog 101 [] [ptr dh 0,ptr ru 0,ptr pC 0,ptr e7 0,ptr kF 0,ptr e8 0] (λs:List b1×Bool=>bk [qC 47 33 4 e7 e8 s,ax dh [U d] 3,ax ru [.bool first] 4,ax pC [U after.ck,aE after.word] 33,ax kF [U batch] 3]) (λs _=>s.1.length<=1000000) (mu first after batch d) where
 cl:=by kernel_rfl
 call:=λs F w x h bs bX=>alW (l:=s.1) (more:=s.2) x d batch first after hd Y9 KA BB h bs bX
theorem zL{p:Prop}(h:p:=by first|(rw[WQ bh];done)|(rw[WQ bh])|exact WV Bi (n:=jD+1) (.inl ⟨by assumption,by omega⟩) bh|exact WV Bi (n:=jD) (.inr aa) bh|(rw[NF Bi (n:=jD+1) (.inl ⟨by assumption,by omega⟩)])|(rw[NF Bi (n:=jD) (.inr aa)])|(exfalso;omega)):p:=h
theorem zM{p:Prop}(h:p:=by omega):p:=h
theorem alY{w0:World}{s:c5}{mC:List aj}{jq:Value}{gT e':Nat}{g:List cw}(kA:aj)(k:Int)(first:Bool){after:b1}(batch:Int)(qH:ht 0 w0 gT e' jq g)(x8:e'<=w0.heap.size)(yk:bY k)(alZ:bY batch)(bX:tZ g s mC)(tv:mC.length<=1000)(aT:kA.length<=1000000)(KA:bY after.ck)(BB:after.word.length<=1000000):
 bI 51 #[jq,aE kA,U k,.bool first,.agg #[U after.ck,aE after.word],U batch] w0 (al λaC ai=>∃eP gk,aC=.tuple #[eP,gk]/\(∃dm,Acc eJ 33 2 ai dm eP ((pK g mC kA k first after batch).1)/\(dm=0\/w0.heap.size<dm))/\(∃cu:Bool,cu=((pK g mC kA k first after batch).2)/\gk=.bool cu)/\Ext w0 ai):=by
 have oK:=bX;obtain⟨uz,⟨ti,qa,ao⟩,OZ,Kf,l_,dI,atw⟩:=bX;obtain⟨mX,rW,iv⟩:=oK.yU;have cW:=au.fZ w0;refine bR func51 rfl ntmps51 rfl (.go 2 rfl (.ac (.box [.bool first] rfl rfl λai aK av aG cr aW=>have a7:=(cW.cR av aG aW).cf;.ac (.box [U after.ck,aE after.word] rfl rfl λa1 aR aA aL eg bQ=>have aZ:=(a7.cR aA aL bQ).bO;.ac (.box [U batch] rfl rfl λbp bz aP aX fA cN=>have a_:=(aZ.cR aP aX cN).cx;have f1:=ht.A8 qH a_.mod (λ_ _ _ h=>h);.go 8 rfl (.ac (.aF aju rfl (alV (w0:=bp)  kA (k) f1 (Nat.le_trans x8 a_.mod.size) cP aV) ?_)))))));rintro _ bW ⟨v1,_,rfl,h1,⟨bL,bq,rfl⟩,aY⟩;have bM:=(a_.E1 aY h1).bU;have vE:=h1.le;have:=ah2 g kA k;refine .go 10 rfl ?_;cases bL
 case true =>
  replace bq:=bq.symm;refine .z (.not rfl) (.go 5 rfl (.ac (.alloc tr λcF cE bt cG g' c'=>have bH:=(bM.cR bt cG c').cQ;have f2:=bH.k 2;.go 3 rfl (.z (.fU aJ f2) (.z (.max rfl rfl) (.ac (.st aJ f2 λc9 b9 eW=>?_)))))));have br:=(bH.c8 2 b9 eW.c1).cQ;refine .go 3 rfl (.ac (.alloc fh λdC de cH cv kd gA=>have b8:=(br.cR cH cv gA).n6;have f3:=b8.k 5;.ac (.st fh f3 λeQ dj pZ=>?_)));have bT:=(b8.c8 5 dj pZ.c1).n6;have cp:au az az w0 eQ [ax aK [.bool first] 4,ax aR [U after.ck,aE after.word] 33,ax bz [U (max batch 0)] 3,fa iO [(v1,(ji g kA k))],ax cE [.slice none 0 0] 47,ax de [.bool false] 4,aS eJ 33 2 (.slice none 0 0) []]:=bT.fz (Mod.refl _ _) Acc.nil (.inl rfl);have cT:=(cp.bz [0,1,2,3] 4 6 5).cQ;have df:au az az w0 eQ [ax aK [.bool first] 4,ax aR [U after.ck,aE after.word] 33,ax bz [U (max batch 0)] 3,fa iO [(v1,(ji g kA k))],qC 47 33 4 cE de (iD mC (ji g kA k) first after (max batch 0) 0)]:=cT.fy (.slice none 0 0) (i:=4) rfl;have Bi:pJ g kA k=true:=(by assumption);have Y_:=(A_.1 Bi).2.1;refine .go 5 rfl (.z (.cd (k+1) rfl rfl aa) (.ae 3 rfl (dW (I:=λm E W=>∃(jD:Nat),E=[(0,jq),(9,ptr aK 0),(10,ptr aR 0),(11,ptr bz 0),(14,v1),(16,ptr cE 0),(17,ptr de 0),(31,U (k+1)),(32,U (jD:Int))]/\m=(k+1).toNat-jD/\au az az w0 W [ax aK [.bool first] 4,ax aR [U after.ck,aE after.word] 33,ax bz [U (max batch 0)] 3,fa iO [(v1,(ji g kA k))],qC 47 33 4 cE de (iD mC (ji g kA k) first after (max batch 0) jD)]/\(false=(iD mC (ji g kA k) first after (max batch 0) jD).2)/\((jD:Int)<=k+1)) ?_ ?_)))
  . refine⟨_,_,⟨(0:Nat),rfl,rfl,df,dw,zM⟩,bm⟩
  . rintro _ _ fl ⟨jD,rfl,rfl,dS,vz,Ov⟩ b5;refine .go 2 rfl (.bg (.lt rfl rfl) (λdu=>?_) λdu=>?_)
    . refine .go 9 rfl (.ac (.alloc aJ λfs hJ dp dz F3 x7=>have eu:=dS.ext dp;have ff:=(dS.cR dp dz x7).n6;have f4:=ff.k 5;.ac (.st aJ f4 λhy dM al0=>?_)));have eo:=(ff.c8 5 dM al0.c1).n6;have f5:=eo.k 5;refine .go 5 rfl (.z (.fU aJ f5) (.z (.makeFunc (first:=[]) (cap:=[ptr hJ 0,ptr aK 0,ptr aR 0,ptr cE 0,ptr bz 0,ptr de 0]) rfl rfl) ?_));have en:=(eo.cE [3] 4 5 0 1 2).bO;have f6:=ht.A8 qH en.mod (λ_ _ _ h=>h);obtain⟨h4,atx,dx,Y',Kj,ds,Za,dd⟩:=en.CE (i:=1) (j:=0) rfl rfl b2;have aty:=ND mC (ji g kA k) first after (max batch 0) jD
      have atz:jD*mC.length<=5*mC.length:=Nat.mul_le_mul_right _ zM;refine .ac (.aF ajv rfl (alO (s:=s) (words:=mC) (w0:=hy) (jD:Int) (iD mC (ji g kA k) first after (max batch 0) jD) (alX cE de hJ aK aR bz (jD:Int) (max batch 0) first after zM zM KA BB) dx (λb ab=>(ds b ab).2) (uz▸f6) (Nat.le_trans x8 en.mod.size) (ah4 ds (λ_ h=>h) x8) (E7 Y') Kj Za zM zM (uz▸qa) ao OZ Kf l_ dI (uz▸iv) (ah3 Kf tv) (WS first after (max batch 0) _ 1000000 _ _ (by have:=WO mC (ji g kA k) (jD:Int);omega))) ?_);rintro _ i_ ⟨rfl,eT,fq,gV,d_⟩;have f':au az az w0 i_ [fa iO [(v1,(ji g kA k))],bk [qC 47 33 4 cE de (iD mC (ji g kA k) first after (max batch 0) (jD+1)),ax hJ [U (jD:Int)] 3,ax aK [.bool first] 4,ax aR [U after.ck,aE after.word] 33,ax bz [U (max batch 0)] 3]]:=dd _ _ _ eT (ah5 vz▸gV) d_;clear dx Y' Kj ds Za dd;have fi:=(f'.u 1 [0]).n6;have gG:au az az w0 i_ [fa iO [(v1,(ji g kA k))],qC 47 33 4 cE de (iD mC (ji g kA k) first after (max batch 0) (jD+1)),ax hJ [U (jD:Int)] 3,ax aK [.bool first] 4,ax aR [U after.ck,aE after.word] 33,ax bz [U (max batch 0)] 3]:=fi;obtain⟨jN,e5⟩:∃b,b=(iD mC (ji g kA k) first after (max batch 0) (jD+1)).2:=⟨_,rfl⟩;obtain⟨fI,gz⟩:=gG.fM 1;change au az az w0 i_ [fa iO [(v1,(ji g kA k))],bk [ax cE [fI] 47,aS eJ 33 2 fI ((iD mC (ji g kA k) first after (max batch 0) (jD+1)).1),ax de [.bool (iD mC (ji g kA k) first after (max batch 0) (jD+1)).2] 4],ax hJ [U (jD:Int)] 3,ax aK [.bool first] 4,ax aR [U after.ck,aE after.word] 33,ax bz [U (max batch 0)] 3] at gz;rw[<-e5] at gz;have iI:=(gz.u 1 [0,2,3,4,5]).n8;have f7:=iI.k 7;refine .go 3 rfl (.z (.fU fh f7) (.ae 1 rfl ?_));cases jN
      case true =>
       replace e5:=e5.symm;refine .ae 3 rfl (eV (λi=>false) 5 (λan=>Mod (b_ 0) i_ an) mixed λkU gO=>have jA:=iI.ext gO;have Gp:Mod (b_ 0) i_ kU:=Mod.gj gO;⟨Gp,?_⟩);have f8:=iI.k 5;refine .z rfl (.cg tr rfl (λ_ ao=>(f8.cell 0 _ rfl).bF ao (Nat.succ_ne_zero _))) (.z rfl (.cg fh rfl (λ_ ao=>(f7.cell 0 _ rfl).bF ao (Nat.succ_ne_zero _))) (.z rfl (.not rfl) (.gd 2 rfl (.nil (cJ func51 rfl rfl rfl ?_)))));obtain⟨g1,cc,b6⟩:=jA.tf (i:=6) rfl;exact al.mk ⟨_,_,rfl,⟨_,Acc.cast cc zL,b6⟩,⟨_,zL,rfl⟩,jA.mod⟩
      replace e5:=e5.symm;have jA:=(iI.bz [0,1,2,3,4] 5 6 7).n6;have ko:au az az w0 i_ [fa iO [(v1,(ji g kA k))],ax hJ [U (jD:Int)] 3,ax aK [.bool first] 4,ax aR [U after.ck,aE after.word] 33,ax bz [U (max batch 0)] 3,qC 47 33 4 cE de ((iD mC (ji g kA k) first after (max batch 0) (jD+1)).1,false)]:=jA.fy fI (i:=5) rfl;have oz:=(ko.ty (qC 47 33 4 cE de (iD mC (ji g kA k) first after (max batch 0) (jD+1))) 5 rfl (λdV bG=>by rw[show(iD mC (ji g kA k) first after (max batch 0) (jD+1))=((iD mC (ji g kA k) first after (max batch 0) (jD+1)).1,false) from Prod.ext rfl (by show _=false;assumption)];exact bG)).n6;exact .go 4 rfl (.z (.cd ((jD+1:Nat):Int) rfl rfl zM) (have pv:=(oz.dy [2,3,4,0,5]).cQ;.ae 2 rfl ((b5 _ _ _ ⟨(jD+1:Nat),rfl,rfl,pv,(by first|exact(by assumption:_=(iD mC (ji g kA k) first after (max batch 0) (jD+1)).2)|(symm;assumption)|(exfalso;omega)),e9⟩ zM).sub bm)))
    refine .ae 2 rfl ?_;obtain⟨hJ,dz⟩:∃b,b=(iD mC (ji g kA k) first after (max batch 0) jD).2:=⟨_,rfl⟩;obtain⟨fI,eu⟩:=dS.fM 4;change au az az w0 fl [ax aK [.bool first] 4,ax aR [U after.ck,aE after.word] 33,ax bz [U (max batch 0)] 3,fa iO [(v1,(ji g kA k))],bk [ax cE [fI] 47,aS eJ 33 2 fI ((iD mC (ji g kA k) first after (max batch 0) jD).1),ax de [.bool (iD mC (ji g kA k) first after (max batch 0) jD).2] 4]] at eu;rw[<-dz] at eu;have ff:=(eu.u 4 [0,1,2,3]).n7;refine .ae 3 rfl (eV (λi=>false) 5 (λan=>Mod (b_ 0) fl an) mixed λfs dp=>have eo:=ff.ext dp;have sM:Mod (b_ 0) fl fs:=Mod.gj dp;⟨sM,?_⟩);have f4:=ff.k 4;refine .z rfl (.cg tr rfl (λ_ ao=>(f4.cell 0 _ rfl).bF ao (Nat.succ_ne_zero _))) (have f5:=ff.k 6;.z rfl (.cg fh rfl (λ_ ao=>(f5.cell 0 _ rfl).bF ao (Nat.succ_ne_zero _))) ?_);cases hJ
    case true =>
     replace dz:=dz.symm;refine .z rfl (.not rfl) (.gd 2 rfl (.nil (cJ func51 rfl rfl rfl ?_)));obtain⟨g1,cc,b6⟩:=eo.tf (i:=5) rfl;exact al.mk ⟨_,_,rfl,⟨_,Acc.cast cc zL,b6⟩,⟨_,zL,rfl⟩,eo.mod⟩
    replace dz:=dz.symm;refine .z rfl (.not rfl) (.gd 2 rfl (.nil (cJ func51 rfl rfl rfl ?_)));obtain⟨g1,cc,b6⟩:=eo.tf (i:=5) rfl;exact al.mk ⟨_,_,rfl,⟨_,Acc.cast cc zL,b6⟩,⟨_,zL,rfl⟩,eo.mod⟩
 replace bq:=bq.symm;exact .z (.not rfl) (.ae 7 rfl (cJ func51 rfl rfl rfl (al.mk ⟨_,_,rfl,⟨0,Acc.cast Acc.nil zL,.inl rfl⟩,⟨_,zL,rfl⟩,bM.mod⟩)))
end Go.Proofs
namespace Go.ak
open Go.aH
def yn(K:List cX)(s:Int):Int:=match K.findIdx? λx=>decide (x.1=s) with|some i=>(i:Int)|none=>-1
theorem Pk{K:List cX}{s:Int}(h:j0 K s=none):yn K s=-1:=by
 unfold yn
 have:K.findIdx? (λx=>decide (x.1=s))=none:=by
  rw[List.findIdx?_eq_none_iff]
  intro x ag
  have:=List.find?_eq_none.1 h x ag
  simpa using this
 rw[this]
theorem Pl{K:List cX}{s:Int}{x:cX}(h:j0 K s=some x):∃k:Nat,yn K s=(k:Int)/\K[k]?=some x/\x.1=s:=by
 obtain⟨k,h1,ah,aB⟩:=agE h;refine⟨k,?_,h1,ah⟩;unfold yn
 have:K.findIdx? (λx=>decide (x.1=s))=some k:=by
  obtain⟨hk,rfl⟩:=List.getElem?_eq_some_iff.1 h1
  rw[List.findIdx?_eq_some_iff_getElem]
  refine⟨hk,decide_eq_true ah,λj bo=>?_⟩
  have:=aB j _ bo (List.getElem?_eq_getElem aa)
  simpa using this
 rw[this]
theorem al1{K:List cX}{s:Int}{sh:List Int}{i:Nat}{y:Int}(yZ:sh=K.map (·.1))(fW:∀z∈sh.take i,z≠s)(aD:sh[i]?=some y)(he:y=s):(i:Int)=yn K s:=by
 subst yZ;unfold yn;rw[List.getElem?_map] at aD
 cases hk:K[i]? with
 | none=>rw[hk] at aD;cases aD
 | some x =>
  rw[hk] at aD;have ag:x.1=s:=(Option.some.inj aD).trans he;obtain⟨nb,wE⟩:=List.getElem?_eq_some_iff.1 hk
  have:K.findIdx? (λx=>decide (x.1=s))=some i:=by
   rw[List.findIdx?_eq_some_iff_getElem]
   refine⟨nb,decide_eq_true (by rw[wE];exact ag),λj bo=>?_⟩
   have ah:=fW (K[j]'aa).1 (by
    rw[<-List.map_take]
    exact List.mem_map_of_mem (List.mem_take_iff_getElem.2 ⟨j,by omega,rfl⟩))
   simpa using ah
  rw[this]
theorem al2{K:List cX}{s:Int}{sh:List Int}{i:Nat}(yZ:sh=K.map (·.1))(fW:∀z∈sh.take i,z≠s)(ar:sh.length<=i):(-1:Int)=yn K s:=by
 rw[List.take_of_length_le ar] at fW;subst yZ;unfold yn
 have:K.findIdx? (λx=>decide (x.1=s))=none:=by
  rw[List.findIdx?_eq_none_iff]
  intro x ag
  have:=fW x.1 (List.mem_map_of_mem ag)
  simpa using this
 rw[this]
theorem al3{sh:List Int}{s y:Int}{i:Nat}(fW:∀z∈sh.take i,z≠s)(aD:sh[i]?=some y)(dG:y≠s):∀z∈sh.take (i+1),z≠s:=by
 intro z cO;rw[List.take_add_one,aD] at cO;rcases List.mem_append.1 cO with h|h
 . exact fW z h
 . simp only[Option.toList_some,List.mem_singleton] at h;rw[h];exact dG
theorem al4(K:List cX)(s:Int):bY (pF K s):=by unfold pF;split<;>(unfold bY;decide)
theorem Zb{K:List cX}(h:pe K)(s:Int):(iR K s).length<=4000000:=by
 unfold iR;split
 . exact Nat.zero_le _
 . rename_i x ag;have:=h.2 _ (A6 ag).2;omega
end Go.ak
namespace Go.aH
open Go Go.ak
section
variable {R F bS:Nat->Prop} {w0 w:World} {L:List (dk R)} {i:Nat} {rows:List i1} {K:List cX}
theorem Pm(h:pG w F rows K):rows.map (·.shard)=K.map (·.1):=by
 induction h with
 | nil=>rfl
 | cons h _ b'=>rw[List.map_cons,List.map_cons,b',h.1]
theorem au.BC(h:au R bS w0 w L)(ar:L[i]?=some (jI rows K)):pG w (dq 0 w.heap.size) rows K:=by
 obtain⟨F,h1,ah⟩:=h.get ar;exact pG.mono h1 λb ab=>⟨Nat.zero_le _,ah b ab⟩
theorem pG.two(h:pG w F rows K){k:Nat}{r:i1}(a':rows[k]?=some r){y:cX}(aD:K[k]?=some y):aq eA w F r.r.val y.2.1/\aq eA w F r.b.val y.2.2:=by
 obtain⟨e,he,_,cy,dE⟩:=h.at a';obtain rfl:e=y:=Option.some.inj (he.symm.trans aD);exact⟨cy,dE⟩
end
end Go.aH
namespace Go.aH
open Go
theorem Pn{P:Program}{d:Nat}{xs ys:Array Value}(gs:List Field):∀(lu:List Field) (w an:World),(Op.eqFields d xs ys lu).run P w=.ok true an->(Op.eqFields d xs ys (lu++gs)).run P w=(Op.eqFields d xs ys gs).run P an
 | [],w,an,h=>by
  simp only[Op.eqFields,Sem.run_pure,Result.ok.injEq,true_and] at h
  subst h;rfl
 | f::lu,w,an,h=>by
  rw[List.cons_append]
  simp only[Op.eqFields] at h ⊢
  split at h
  . rename_i aN
    rw[if_pos aN]
    simp only[Sem.run_bind] at h ⊢
    generalize (part f.type xs f.offset).run P w=dX at h ⊢
    cases dX with
    | ok a ai =>
     simp only[Result.andThen_ok] at h ⊢
     generalize (part f.type ys f.offset).run P ai=Gq at h ⊢
     cases Gq with
     | ok b a1 =>
      simp only[Result.andThen_ok] at h ⊢
      generalize (Op.equalIn d f.type a b).run P a1=Gr at h ⊢
      cases Gr with
      | ok r bp =>
       simp only[Result.andThen_ok] at h ⊢
       cases r
       . simp at h
       . simp only[Bool.not_true,Bool.false_eq_true,if_false] at h ⊢
         exact Pn gs lu bp an h
      | _=>cases h
     | _=>cases h
    | _=>cases h
  . rename_i aN
    rw[if_neg aN]
    exact Pn gs lu w an h
theorem Po{P:Program}{d:Nat}{xs ys:Array Value}(gs:List Field):∀(lu:List Field) (w an:World),(Op.eqFields d xs ys lu).run P w=.ok false an->(Op.eqFields d xs ys (lu++gs)).run P w=.ok false an
 | [],w,an,h=>by simp[Op.eqFields] at h
 | f::lu,w,an,h=>by
  rw[List.cons_append]
  simp only[Op.eqFields] at h ⊢
  split at h
  . rename_i aN
    rw[if_pos aN]
    simp only[Sem.run_bind] at h ⊢
    generalize (part f.type xs f.offset).run P w=dX at h ⊢
    cases dX with
    | ok a ai =>
     simp only[Result.andThen_ok] at h ⊢
     generalize (part f.type ys f.offset).run P ai=Gq at h ⊢
     cases Gq with
     | ok b a1 =>
      simp only[Result.andThen_ok] at h ⊢
      generalize (Op.equalIn d f.type a b).run P a1=Gr at h ⊢
      cases Gr with
      | ok r bp =>
       simp only[Result.andThen_ok] at h ⊢
       cases r
       . simpa using h
       . simp only[Bool.not_true,Bool.false_eq_true,if_false] at h ⊢
         exact Po gs lu bp an h
      | _=>cases h
     | _=>cases h
    | _=>cases h
  . rename_i aN
    rw[if_neg aN]
    exact Po gs lu w an h
theorem al5{P:Program}{t t2:TypeId}{xs ys x2 y2:Array Value}{ks ks2:List (Nat×AN)}{q q2:Bool}{k o n by_:Nat}{z:List Value}(bB:P.underlying t=some (.struct (P.fieldsOf t)))(hp:P.stoodInHeld t=false)
 (hk : yX P ((P.fieldsOf t).toList.take k) = some ks) (aU : (((P.fieldsOf t).toList.drop k).map fun f => (f.name != "_", f.type, f.offset)) = [(true, t2, o)])
 (sy:P.underlying t2=some (.struct (P.fieldsOf t2))) (wB:P.stoodInHeld t2=false) (bQ:yX P (P.fieldsOf t2).toList=some ks2) (r5:ey P t2=some (true,n,by_,z))
 (dH:mo ks xs ys=some q) (ag:xs.extract o (o+n)=x2) (aD:ys.extract o (o+n)=y2) (zD:mo ks2 x2 y2=some q2) (w:World) :
 (Op.equalIn 10000 t (.agg xs) (.agg ys)).run P w=.ok (q && q2) w:=by
 refine(run_equalIn_agg w 9999 t xs ys bB hp).trans ?_;have h1:=HX (P:=P) (xs:=xs) (ys:=ys) (n:=9998) w _ ks q hk dH;have bj:(P.fieldsOf t).toList=(P.fieldsOf t).toList.take k++(P.fieldsOf t).toList.drop k:=(List.take_append_drop _ _).symm;rw[bj]
 cases q with
 | false =>
  show _=Result.ok false w;exact Po _ _ w w h1
 | true =>
  rw[Pn _ _ w w h1];obtain⟨f,Dc,KB⟩:=List.map_eq_singleton_iff.1 aU;rw[Dc];simp only[Prod.mk.injEq,bne_iff_ne,ne_eq] at KB;obtain⟨aN,fS,jd⟩:=KB
  have AO:∀cs:Array Value,(part f.type cs f.offset).run P w=.ok (.agg (cs.extract o (o+n))) w:=by
   intro cs
   unfold part
   rw[fS,jd]
   simp[Sem.run_bind,LF r5,aH.run_sizeOf r5]
  have he:(Op.equalIn 9999 t2 (.agg x2) (.agg y2)).run P w=.ok q2 w:=(run_equalIn_agg w 9998 t2 x2 y2 sy wB).trans (HX (n:=9997) w _ ks2 q2 bQ zD);have Zc:=AO xs;have Zd:=AO ys;rw[ag] at Zc;rw[aD] at Zd;rw[<-fS] at he;simp only[Op.eqFields];rw[if_pos aN];simp only[Sem.run_bind,Zc,Zd,Result.andThen_ok,he]
  cases q2<;>simp
end Go.aH
namespace Go.ak
open Go.aH
structure d' where
 ep:Int
 up:Bool
 life:Int
 K:List cX
 B:List cX
 q:List bc
def gn(B:List cX)(k:Int):List cw:=(iq (iR B k)).1
def kL(B:List cX)(k:Int):Int:=(iq (iR B k)).2
def lp(ks:List Int)(vs:List Value)(B:List cX):List (Int×(Value×Int)):=(ks.zip vs).map λp=>(p.1,(p.2,kL B p.1))
def mi(p:Value×Int):Value:=.agg #[p.1,.int .i64 p.2]
theorem al6{ks:List Int}{vs:List Value}{B:List cX}{i:Nat}{k:Int}{v:Value}(cI:vs.length=i)(hk:ks[i]?=some k)(aN:ks.Nodup):lB (lp (ks.take i) vs B) k (v,kL B k)=lp (ks.take (i+1)) (vs++[v]) B:=by
 have ar:=(List.getElem?_eq_some_iff.1 hk).1;have bj:(ks.take i).length=vs.length:=by rw[List.length_take];omega
 have e:lp (ks.take (i+1)) (vs++[v]) B=lp (ks.take i) vs B++[(k,(v,kL B k))]:=by
  unfold lp
  rw[List.take_add_one,hk]
  rw[List.zip_append bj,List.map_append];rfl
 rw[e]
 have fW:∀p∈lp (ks.take i) vs B,p.1≠k:=by
  intro p hp
  unfold lp at hp
  obtain⟨x,ag,rfl⟩:=List.mem_map.1 hp
  have ba:=(List.of_mem_zip (a:=x.1) (b:=x.2) ag).1
  intro e
  obtain⟨j,bo,he⟩:=List.mem_iff_getElem.1 ba
  rw[List.length_take] at bo
  rw[List.getElem_take] at he
  have ah:=List.getElem_of_getElem? hk
  exact(List.pairwise_iff_getElem.1 aN) j i aa ar aa (by rw[he,e];exact((List.getElem?_eq_some_iff.1 hk).2).symm)
 have:∀(m:List (Int×(Value×Int))),(∀p∈m,p.1≠k)->lB m k (v,kL B k)=m++[(k,(v,kL B k))]:=by
  intro m
  induction m with
  | nil=>intro _;rfl
  | cons p m b' =>
   intro h
   unfold lB
   rw[if_neg (h p dg),b' λq dH=>h q (by simp[dH])];rfl
 exact this _ fW
theorem Pp{ks:List Int}{vs:List Value}{B:List cX}(bj:vs.length=ks.length)(s:Int):
 (s∉ks/\gv (lp ks vs B) s=none)\/∃(i:Nat) (v:Value),ks[i]?=some s/\vs[i]?=some v/\gv (lp ks vs B) s=some (v,kL B s):=by
 induction ks generalizing vs with
 | nil=>exact .inl ⟨by simp,rfl⟩
 | cons k ks b' =>
  cases vs with
  | nil=>simp at bj
  | cons v vs =>
   have hD:lp (k::ks) (v::vs) B=(k,(v,kL B k))::lp ks vs B:=rfl;rw[hD];by_cases hk:k=s
   . subst hk;exact .inr ⟨0,v,rfl,rfl,by rw[qb,if_pos rfl]⟩
   . rcases b' (vs:=vs) (by simpa using bj) with ⟨h1,ah⟩|⟨i,u,h1,ah,aB⟩
     . exact .inl ⟨by simp[h1];exact λe=>hk e.symm,by rw[qb,if_neg hk,ah]⟩
     . exact .inr ⟨i+1,u,by simpa using h1,by simpa using ah,by rw[qb,if_neg hk,aB]⟩
structure qo where
 slot:Int
 query:Int
 shard:Int
 seq:Int
 worker:Int
 fP:Int
 items:List b1
 fin:Bool
 deriving DecidableEq
inductive eX where
 | hB (a b:Int)
 | lY (a b c:Int)
 | ask (a:bc)
 | iW (r:qo)
 | stop (a b:Int)
 deriving DecidableEq
def DR(ks:List Int)(B:List cX)(k:Int):Bool:=decide (k∈ks) && decide (gn B k≠[])
def se(ks:List Int)(s:d')(a:bc):Bool:=nS a && decide (a.fP=s.ep) && decide (0<a.fP) && DR ks s.B a.shard
def vO(id:Int)(s:d')(a b c:Int):Bool:=decide (a=id) && decide (b=s.life) && decide (s.ep<c)
def j5(id:Int)(ks:List Int)(s:d')(m:eX):d':=
 if s.up=false then s else match m with
 | .lY a b c=>if vO id s a b c=true then { s with ep:=c } else s
 | .ask a=>if se ks s a=true then { s with q:=gb s.q a } else s
 | .stop a b=>{ s with q:=lj s.q a b }
 | _=>s
def hn(B:List cX)(k:Int):List aj:=(h2 (iR B k)).1
def answer(id:Int)(s:d')(a:bc):qo:=
 let r:=pK (gn s.B a.shard) (hn s.B a.shard) a.text a.k a.first a.after a.batch
 ⟨a.slot,a.query,a.shard,a.seq,id,s.ep,r.1,r.2⟩
def ja(id:Int)(s:d'):d'×List eX:=
 if s.up=false then(s,[]) else
 if 0<s.ep then match s.q with
  | a::q=>({ s with q:=q },[.iW (answer id s a)])
  | []=>(s,[.hB id s.life])
 else(s,[.hB id s.life])
def DS(s:d'):d':=⟨0,true,s.life+1,s.K,s.K,[]⟩
def sR(c:cD)(id:Int):d':=⟨0,true,1,nj c id,nj c id,[]⟩
def zN(s:d'):Int:=if s.up=true then s.ep else 0
def nz(ks:List Int)(s:d')(k:Int):List aj×Int:=
 if s.up=false then([],10) else if k∈ks then(if kL s.B k=0 then(hn s.B k,0) else([],kL s.B k)) else([],4)
def yo(s:d'):List bc:=if s.up=true then s.q else[]
structure w7(ks:List Int):Prop where
 vl:ks.Nodup
 i64:∀k∈ks,bY k
 len:ks.length<=1000
structure Pq(ks:List Int)(B:List cX)(a:bc):Prop where
 ok:a.Ok
 IB:a.text.length<=1000
 Ze:a.after.word.length<=1000
 sh:a.shard∈ks
 dm:gn B a.shard≠[]
structure ha(ks:List Int)(n:Nat)(s:d'):Prop where
 life:0<=s.life/\s.life<=(n:Int)
 K:pe s.K
 ep:bY s.ep
 nA:s.q.length<=n
 q:∀a∈s.q,Pq ks s.B a
 kw:∀k,(hn s.K k).length<=1000
 c_:∀k,(hn s.B k).length<=1000
theorem ha.more{ks:List Int}{n m:Nat}{s:d'}(h:ha ks n s)(hm:n<=m):ha ks m s:=⟨⟨h.life.1,by have:=h.life.2;omega⟩,h.K,h.ep,by have:=h.nA;omega,h.q,h.kw,h.c_⟩
theorem al7{ks:List Int}{s:d'}{a:bc}(h:se ks s a=true):nS a=true/\a.fP=s.ep/\0<a.fP/\a.shard∈ks/\gn s.B a.shard≠[]:=by
 unfold se DR at h;simp only[Bool.and_eq_true,decide_eq_true_eq] at h;exact⟨h.1.1.1,h.1.1.2,h.1.2,h.2.1,h.2.2⟩
theorem al8{q:List bc}{a x:bc}(h:x∈gb q a):x∈q\/x=a:=by
 unfold gb at h;split at h
 . split at h
   . obtain⟨y,aD,e⟩:=List.mem_map.1 h;split at e
     . exact .inr e.symm
     . exact .inl (e▸aD)
   . rcases List.mem_append.1 h with h|h
     . exact .inl h
     . exact .inr (List.mem_singleton.1 h)
 . exact .inl h
theorem al9(q:List bc)(a:bc):(gb q a).length<=q.length+1:=by
 unfold gb;split
 . split
   . rw[List.length_map];omega
   . rw[List.length_append];simp
 . omega
theorem ha.begin{ks:List Int}{n:Nat}{s:d'}(h:ha ks n s):ha ks (n+1) (DS s):=
 ⟨⟨by have:=h.life.1;show 0<=s.life+1;omega,by have:=h.life.2;show s.life+1<=((n+1:Nat):Int);omega⟩,h.K,by show bY 0;unfold bY;decide,Nat.zero_le _,(λa aw=>nomatch aw),h.kw,h.kw⟩
theorem ha.yp{ks:List Int}{n:Nat}{s:d'}(h:ha ks n s):ha ks n { s with up:=false }:=⟨h.life,h.K,h.ep,h.nA,h.q,h.kw,h.c_⟩
theorem ha.KC{ks:List Int}{n:Nat}{s:d'}{K:List cX}(h:ha ks n s)(eR:pe K)(hw:∀k,(hn K k).length<=1000):ha ks n { s with K:=K }:=⟨h.life,eR,h.ep,h.nA,h.q,hw,h.c_⟩
def eX.Ok:eX->Prop
 | .hB a b=>bY a/\bY b
 | .lY a b c=>bY a/\bY b/\bY c
 | .ask a=>a.Ok/\a.text.length<=1000/\a.after.word.length<=1000
 | .iW _=>True
 | .stop a b=>bY a/\bY b
theorem ha.take{ks:List Int}{n:Nat}{s:d'}{id:Int}{m:eX}(h:ha ks n s)(hm:m.Ok):ha ks (n+1) (j5 id ks s m):=by
 have gN:=h.more (Nat.le_succ n);unfold j5;split
 . exact gN
 . cases m with
   | hB a b=>exact gN
   | iW r=>exact gN
   | lY a b c =>
    dsimp only;split
    . exact⟨gN.life,h.K,hm.2.2,gN.nA,h.q,h.kw,h.c_⟩
    . exact gN
   | ask a =>
    dsimp only;split
    . rename_i a8;obtain⟨_,_,_,bE,c6⟩:=al7 a8;refine⟨gN.life,h.K,h.ep,?_,λx ag=>?_,h.kw,h.c_⟩
      . have:=al9 s.q a;have:=h.nA;show(gb s.q a).length<=n+1;omega
      . rcases al8 ag with ag|rfl
        . exact h.q x ag
        . exact⟨hm.1,hm.2.1,hm.2.2,bE,c6⟩
    . exact gN
   | stop a b =>
    refine⟨gN.life,h.K,h.ep,?_,λx ag=>h.q x ((List.mem_filter.1 ag).1),h.kw,h.c_⟩;have:(lj s.q a b).length<=s.q.length:=List.length_filter_le ..
    have:=h.nA;show(lj s.q a b).length<=n+1;omega
theorem ha.Pr{ks:List Int}{n:Nat}{s:d'}{id:Int}(h:ha ks n s):ha ks n (ja id s).1:=by
 unfold ja;split
 . exact h
 . split
   . split
     . rename_i a q dH;exact⟨h.life,h.K,h.ep,by have:=h.nA;rw[dH] at this;simp only[List.length_cons] at this;show q.length<=n;omega,λx ag=>h.q x (by rw[dH];exact List.mem_cons_of_mem _ ag),h.kw,h.c_⟩
     . exact h
   . exact h
theorem KD{B:List cX}{k:Int}:gn B k≠[]↔kL B k=0:=by
 constructor
 . intro h;exact(C0 _).1.trans (Wl h)
 . intro h;obtain⟨N,_,ah,aB⟩:=VW h;exact λe=>ah (aB.symm.trans e)
theorem Zf{B:List cX}{k:Int}(h:gn B k≠[]):tZ (gn B k) (o' (hn B k)) (hn B k):=by
 obtain⟨h1,ah⟩:=Ns h;have e:gn B k=h7 (hn B k):=ah;rw[e];exact CK h1
theorem al_{ks:List Int}{B:List cX}{k:Int}(h1:k∈ks)(ah:gn B k≠[]):DR ks B k=true:=by unfold DR;rw[decide_eq_true h1,decide_eq_true ah];rfl
theorem al'{ks:List Int}{B:List cX}{k:Int}(h:k∉ks\/gn B k=[]):DR ks B k=false:=by
 unfold DR;rcases h with h|h
 . rw[decide_eq_false h];rfl
 . rw[h];simp
theorem ama(B:List cX)(k:Int):0<=kL B k/\kL B k<=10:=by
 have:0<=(iq (iR B k)).2/\(iq (iR B k)).2<=9:=by
  cases h:ni (iR B k) with
  | false=>rw[Nh h];decide
  | true =>
   rcases V5 h with h|h
   . omega
   . rw[h];decide
 unfold kL;omega
theorem amb{ks:List Int}{ep life:Int}{K B:List cX}{q:List bc}{k:Int}:nz ks ⟨ep,false,life,K,B,q⟩ k=([],10):=rfl
theorem Ps{ks:List Int}{ep life:Int}{K B:List cX}{q:List bc}{k:Int}(h:k∉ks):nz ks ⟨ep,true,life,K,B,q⟩ k=([],4):=by unfold nz;simp[h]
theorem Pt{ks:List Int}{ep life:Int}{K B:List cX}{q:List bc}{k:Int}(h:k∈ks)(he:kL B k≠0):nz ks ⟨ep,true,life,K,B,q⟩ k=([],kL B k):=by unfold nz;simp[h,he]
theorem KE{ks:List Int}{ep life:Int}{K B:List cX}{q:List bc}{k:Int}(h:k∈ks)(he:kL B k=0):nz ks ⟨ep,true,life,K,B,q⟩ k=(hn B k,0):=by unfold nz;simp[h,he]
theorem atA(ks:List Int)(s:d')(k:Int):0<=(nz ks s k).2/\(nz ks s k).2<=10:=by
 unfold nz;split
 . exact⟨by decide,by decide⟩
 . split
   . split
     . exact⟨Int.le_refl 0,(by decide:(0:Int)<=10)⟩
     . exact ama _ _
   . exact⟨by decide,by decide⟩
theorem Pu{c:cD}{w k:Int}(h:k∈cn c w):bY k:=by
 have h1:=C2 h;have ah:=uY c;unfold bY;omega
theorem Zg{ks:List Int}{s:d'}{a:bc}(h:nS a=false):se ks s a=false:=by unfold se;rw[h];rfl
theorem Pv{ks:List Int}{s:d'}{a:bc}(h:a.fP≠s.ep):se ks s a=false:=by unfold se;rw[decide_eq_false h];simp
theorem Zh{ks:List Int}{s:d'}{a:bc}(h:¬ a.fP>0):se ks s a=false:=by unfold se;rw[decide_eq_false (p:=0<a.fP) h];simp
theorem KF{ks:List Int}{s:d'}{a:bc}(h:a.shard∉ks\/gn s.B a.shard=[]):se ks s a=false:=by unfold se;rw[al' h];simp
theorem Pw{ks:List Int}{s:d'}{a:bc}(h1:nS a=true)(ah:a.fP=s.ep)(aB:a.fP>0)(bE:a.shard∈ks)(c6:gn s.B a.shard≠[]):se ks s a=true:=by
 unfold se;rw[h1,decide_eq_true ah,decide_eq_true (p:=0<a.fP) aB,al_ bE c6];rfl
theorem Zi{id:Int}{s:d'}{a b c:Int}(h:a≠id):vO id s a b c=false:=by unfold vO;rw[decide_eq_false h];simp
theorem Zj{id:Int}{s:d'}{a b c:Int}(h:b≠s.life):vO id s a b c=false:=by unfold vO;rw[decide_eq_false h];simp
theorem Zk{id:Int}{s:d'}{a b c:Int}(h:¬ c>s.ep):vO id s a b c=false:=by unfold vO;rw[decide_eq_false (p:=s.ep<c) h];simp
theorem Px{id:Int}{s:d'}{a b c:Int}(h1:a=id)(ah:b=s.life)(aB:c>s.ep):vO id s a b c=true:=by
 unfold vO;rw[decide_eq_true h1,decide_eq_true ah,decide_eq_true (p:=s.ep<c) aB];rfl
section
variable {id:Int} {ks:List Int} {ep life:Int} {K B:List cX} {q:List bc}
theorem zO{m:eX}:j5 id ks ⟨ep,false,life,K,B,q⟩ m=⟨ep,false,life,K,B,q⟩:=rfl
theorem vP{a:bc}(h:se ks ⟨ep,true,life,K,B,q⟩ a=false):j5 id ks ⟨ep,true,life,K,B,q⟩ (.ask a)=⟨ep,true,life,K,B,q⟩:=by unfold j5;simp[h]
theorem Py{a:bc}(h:se ks ⟨ep,true,life,K,B,q⟩ a=true):j5 id ks ⟨ep,true,life,K,B,q⟩ (.ask a)=⟨ep,true,life,K,B,gb q a⟩:=by unfold j5;simp[h]
theorem DT{a b c:Int}(h:vO id ⟨ep,true,life,K,B,q⟩ a b c=false):j5 id ks ⟨ep,true,life,K,B,q⟩ (.lY a b c)=⟨ep,true,life,K,B,q⟩:=by unfold j5;simp[h]
theorem Pz{a b c:Int}(h:vO id ⟨ep,true,life,K,B,q⟩ a b c=true):j5 id ks ⟨ep,true,life,K,B,q⟩ (.lY a b c)=⟨c,true,life,K,B,q⟩:=by unfold j5;simp[h]
theorem Zl{a b:Int}:j5 id ks ⟨ep,true,life,K,B,q⟩ (.stop a b)=⟨ep,true,life,K,B,lj q a b⟩:=rfl
theorem Zm{a b:Int}:j5 id ks ⟨ep,true,life,K,B,q⟩ (.hB a b)=⟨ep,true,life,K,B,q⟩:=rfl
theorem Zn:ja id ⟨ep,false,life,K,B,q⟩=(⟨ep,false,life,K,B,q⟩,[]):=rfl
theorem Gs(h:¬ ep>0):ja id ⟨ep,true,life,K,B,q⟩=(⟨ep,true,life,K,B,q⟩,[.hB id life]):=by
 unfold ja;simp only[Bool.true_eq_false,if_false];rw[if_neg (show ¬ 0<ep from h)]
theorem PA(h:ep>0):ja id ⟨ep,true,life,K,B,[]⟩=(⟨ep,true,life,K,B,[]⟩,[.hB id life]):=by
 unfold ja;simp only[Bool.true_eq_false,if_false];rw[if_pos (show 0<ep from h)]
theorem PB{a:bc}(h:ep>0):ja id ⟨ep,true,life,K,B,a::q⟩=(⟨ep,true,life,K,B,q⟩,[.iW (answer id ⟨ep,true,life,K,B,a::q⟩ a)]):=by
 unfold ja;simp only[Bool.true_eq_false,if_false];rw[if_pos (show 0<ep from h)]
end
structure w8 where
 a:Int
 b:Int
 deriving DecidableEq
structure Gt where
 a:Int
 b:Int
 c:Int
 deriving DecidableEq
theorem amc{r t:qo}{b:Bool}(bK:r.slot=t.slot)(h1:r.query=t.query)(ah:r.shard=t.shard)(aB:r.seq=t.seq)(bE:r.worker=t.worker)(c6:r.fP=t.fP)(eZ:r.fin=t.fin)(ab:b=decide (r.items=t.items)):b=decide (r=t):=by
 rw[ab];obtain⟨a0,h9,a2,a3,a4,a5,DU,DV⟩:=r;obtain⟨fo,c1,c2,hE,DW,w9,w_,xY⟩:=t;simp only at bK h1 ah aB bE c6 eZ;subst bK;subst h1;subst ah;subst aB;subst bE;subst c6;subst eZ;exact decide_eq_decide.2 dg
theorem amd{a b c d:Int}{p:Bool}(h:p=decide (w8.mk a b=w8.mk c d)):p=decide (eX.hB a b=eX.hB c d):=by rw[h];exact decide_eq_decide.2 dg
theorem ame{a b c d:Int}{p:Bool}(h:p=decide (w8.mk a b=w8.mk c d)):p=decide (eX.stop a b=eX.stop c d):=by rw[h];exact decide_eq_decide.2 dg
theorem amf{a b c d e f:Int}{p:Bool}(h:p=decide (Gt.mk a b c=Gt.mk d e f)):p=decide (eX.lY a b c=eX.lY d e f):=by rw[h];exact decide_eq_decide.2 dg
theorem amg{a b:bc}{p:Bool}(h:p=decide (a=b)):p=decide (eX.ask a=eX.ask b):=by rw[h];exact decide_eq_decide.2 dg
theorem amh{a b:qo}{p:Bool}(h:p=decide (a=b)):p=decide (eX.iW a=eX.iW b):=by rw[h];exact decide_eq_decide.2 dg
theorem Zo{id:Int}{ep life:Int}{K B:List cX}{q:List bc}(h:ep>0)(dH:q.length=0):ja id ⟨ep,true,life,K,B,q⟩=(⟨ep,true,life,K,B,q⟩,[.hB id life]):=by
 obtain rfl:=List.eq_nil_of_length_eq_zero dH;exact PA h
theorem ami{id:Int}{ep life:Int}{K B:List cX}{q eb:List bc}{a:bc}(h:ep>0)(dH:q=a::eb):ja id ⟨ep,true,life,K,B,q⟩=(⟨ep,true,life,K,B,eb⟩,[.iW (answer id ⟨ep,true,life,K,B,q⟩ a)]):=by
 subst dH;exact PB h
end Go.ak
namespace Go.aH
open Go Go.ak
def lZ{R:Nat->Prop}(vs:List Value)(sS:List (List cw)):dk R:=⟨λF w=>cZ (λv n=>(wz (R:=R) v n).p F w) vs sS,λh hm bs fm=>cZ.imp (λ_ _ k=>(wz _ _).keep k hm bs fm) h⟩
def iK{R:Nat->Prop}(kZ qp jh eI u8 lE pj:TypeId)(c_:Nat)(id:Int)(ks:List Int)(s:d'):dk R:=nK λx:Value×Nat×Nat×List Value×Nat =>
 bk [ax c_ [.int .i64 id,.int .i64 s.ep,.bool s.up,x.1,ptr x.2.1 0,.map (some x.2.2.1),ptr x.2.2.2.2 0] qp,aS encI kZ 1 x.1 ks,hQ jh eI u8 x.2.1 s.life s.K,jl fC mi x.2.2.1 (lp ks x.2.2.2.1 s.B),lZ x.2.2.2.1 (ks.map (gn s.B)),j2 lE pj x.2.2.2.2 s.q]
theorem ht.PC{gt:TypeId}{w:World}{c0 ar:Nat}{v:Value}{N:List cw}(h:ht gt w c0 ar v N):∃a,v=.pointer a/\(a=none↔N=[]):=by
 rcases h with ⟨h1,ah⟩|⟨b,gJ,bn,h1,ah,_⟩
 . exact⟨none,h1,by simp[ah]⟩
 . exact⟨some ⟨b,0,none⟩,h1,by simp[ah]⟩
theorem au.mD{R bS:Nat->Prop}{w0 w:World}{L:List (dk R)}{kZ qp jh eI u8 lE pj:TypeId}{c_ dh iS dc:Nat}{id:Int}{ks:List Int}{s:d'}{o3:Value}{vs:List Value}(h:au R bS w0 w L)(i:Nat)
 (ar:L[i]?=some (bk [ax c_ [.int .i64 id,.int .i64 s.ep,.bool s.up,o3,ptr dh 0,.map (some iS),ptr dc 0] qp,aS encI kZ 1 o3 ks,hQ jh eI u8 dh s.life s.K,jl fC mi iS (lp ks vs s.B),lZ vs (ks.map (gn s.B)),j2 lE pj dc s.q])):au R bS w0 w (L.set i (iK kZ qp jh eI u8 lE pj c_ id ks s)):=
 h.imp ar λF x=>⟨(o3,dh,iS,vs,dc),x⟩
theorem amj{R:Nat->Prop}{vs:List Value}{sS:List (List cw)}{v:Value}{n:List cw}{F:Nat->Prop}{w:World}(h:(bk [lZ (R:=R) vs sS,wz v n]).p F w):(lZ (R:=R) (vs++[v]) (sS++[n])).p F w:=by
 obtain⟨fe,h1,ah,aB⟩:=h;have a:=h1 0 _ rfl;obtain⟨c0,ar,eb,q2,fx⟩:=h1 1 _ rfl;have f0:∀b,fe 0 b->F b:=λb ab=>(ah 0 b ab).1.1
 have f1:∀b,fe 1 b->F b:=λb ab=>(ah 1 b ab).1.1
 have qW:cZ (λv n=>(wz (R:=R) v n).p F w) vs sS:=cZ.imp (λ_ _ ⟨c0,ar,bC,cy,dE⟩=>⟨c0,ar,bC,cy,λb eb q2=>f0 b (dE b eb q2)⟩) a;exact cZ.snoc qW ⟨c0,ar,eb,q2,λb bC cy=>f1 b (fx b bC cy)⟩
theorem au.PD{R bS:Nat->Prop}{w0 w:World}{L:List (dk R)}{i k:Nat}{vs:List Value}{sS:List (List cw)}{v:Value}{n:List cw}(h:au R bS w0 w L)(ar:L[i]?=some (lZ vs sS))(cI:vs[k]?=some v)(aN:sS[k]?=some n):∃c0 up,ht 0 w c0 up v n/\up<=w.heap.size:=by
 obtain⟨F,h1,_⟩:=h.get ar;obtain⟨c0,up,ah,aB,_⟩:=(cZ.get h1).2 k v n cI aN;exact⟨c0,up,ah,aB⟩
theorem zP{R:Nat->Prop}{kZ qp jh eI u8 lE pj:TypeId}{c_:Nat}{id:Int}{ks:List Int}{s:d'}{F:Nat->Prop}{w:World}(h:(iK (R:=R) kZ qp jh eI u8 lE pj c_ id ks s).p F w):
 ∃(o3:Value) (dh iS:Nat) (vs:List Value) (dc:Nat),dv w c_ [.int .i64 id,.int .i64 s.ep,.bool s.up,o3,ptr dh 0,.map (some iS),ptr dc 0] qp/\(∃fq,(hQ (R:=R) jh eI u8 dh s.life s.K).p fq w/\∀b,fq b->F b)/\kQ fC mi w iS (lp ks vs s.B)/\(∃fq,(lZ (R:=R) vs (ks.map (gn s.B))).p fq w/\∀b,fq b->F b)/\∃fq,(j2 (R:=R) lE pj dc s.q).p fq w/\∀b,fq b->F b:=by
 obtain⟨⟨o3,dh,iS,vs,dc⟩,fe,h1,ah,_⟩:=h;exact⟨o3,dh,iS,vs,dc,(h1 0 _ rfl).1,⟨_,h1 2 _ rfl,λb ab=>(ah 2 b ab).1.1⟩,(h1 3 _ rfl).1,⟨_,h1 4 _ rfl,λb ab=>(ah 4 b ab).1.1⟩,⟨_,h1 5 _ rfl,λb ab=>(ah 5 b ab).1.1⟩⟩
theorem PE{R:Nat->Prop}{vs:List Value}{sS:List (List cw)}{F:Nat->Prop}{w:World}(h:(lZ (R:=R) vs sS).p F w):vs.length=sS.length:=(cZ.get h).1
theorem Zp{R:Nat->Prop}{vs:List Value}{sS:List (List cw)}{F:Nat->Prop}{w:World}(h:(lZ (R:=R) vs sS).p F w){k:Nat}{v:Value}{n:List cw}(cI:vs[k]?=some v)(aN:sS[k]?=some n):∃c0 up,ht 0 w c0 up v n/\up<=w.heap.size:=by
 obtain⟨c0,up,ah,aB,_⟩:=(cZ.get h).2 k v n cI aN;exact⟨c0,up,ah,aB⟩
def rv(iy h_ iz iA iB:TypeId):eX->TypeId
 | .hB _ _=>iy
 | .lY _ _ _=>h_
 | .ask _=>iz
 | .iW _=>iA
 | .stop _ _=>iB
def amk(vi:Value):eX->Value
 | .hB a b=>.agg #[.int .i64 a,.int .i64 b]
 | .lY a b c=>.agg #[.int .i64 a,.int .i64 b,.int .i64 c]
 | .ask a=>.agg #[.int .i64 a.slot,.int .i64 a.query,.int .i64 a.shard,.int .i64 a.seq,.int .i64 a.fP,aE a.text,.int .i64 a.k,.int .i64 a.batch,.bool a.first,.int .i64 a.after.ck,aE a.after.word]
 | .iW r=>.agg #[.int .i64 r.slot,.int .i64 r.query,.int .i64 r.shard,.int .i64 r.seq,.int .i64 r.worker,.int .i64 r.fP,vi,.bool r.fin]
 | .stop a b=>.agg #[.int .i64 a,.int .i64 b]
def jt(iy h_ iz iA iB:TypeId)(vi:Value)(m:eX):Value:=.iface (rv iy h_ iz iA iB m) (amk vi m)
def jQ:eX->List b1
 | .iW r=>r.items
 | _=>[]
def nB(x:Int×Value):List Value:=[.int .i64 x.1,x.2]
theorem tC(x:Int×Value):(nB x).length=2:=rfl
def sT{R:Nat->Prop}(iy h_ iz iA iB kM pc:TypeId)(v:Value)(ms:List eX):dk R:=nK λmU:List Value=>bk [aS nB kM 2 v ((mU.zip ms).map λx=>((0:Int),jt iy h_ iz iA iB x.1 x.2)),pD (mU.length=ms.length) (bk ((mU.zip ms).map λx=>aS eJ pc 2 x.1 (jQ x.2)))]
theorem aml{R:Nat->Prop}{iy h_ iz iA iB kM pc:TypeId}{w:World}:(sT (R:=R) iy h_ iz iA iB kM pc (.slice none 0 0) []).p (λ_=>False) w:=
 ⟨[],λ_ _=>False,λi r ar=>by
  match i,ar with
  | 0,ar=>cases ar;exact⟨0,Acc.nil,λb ab=>by omega⟩
  | 1,ar=>cases ar;exact⟨rfl,λ_ _=>False,⟨λi r ar=>by simp at ar,⟨λ_ _ h=>False.elim h,λ_ _ _ _ h _=>False.elim h⟩⟩⟩,λ_ _ h=>h.elim,λ_ _ _ _ h _=>h.elim⟩
theorem PF{R:Nat->Prop}{iy h_ iz iA iB kM pc:TypeId}{F:Nat->Prop}{w:World}{v vi:Value}{m:eX}(h:(bk [aS (R:=R) nB kM 2 v [((0:Int),jt iy h_ iz iA iB vi m)],bk [aS eJ pc 2 vi (jQ m)]]).p F w):(sT (R:=R) iy h_ iz iA iB kM pc v [m]).p F w:=by
 obtain⟨fe,h1,ah,aB⟩:=h;refine⟨[vi],fe,λi r ar=>?_,ah,aB⟩
 match i,ar with
 | 0,ar=>cases ar;exact h1 0 _ rfl
 | 1,ar=>cases ar;exact⟨rfl,h1 1 _ rfl⟩
section
variable {iy h_ iz iA iB:TypeId} {m:eX}
theorem amm(hd:[iy,h_,iz,iA,iB].Nodup)(h:rv iy h_ iz iA iB m=iy):∃a b,m=.hB a b:=by
 cases m<;>simp_all[rv]
theorem amn(hd:[iy,h_,iz,iA,iB].Nodup)(h:rv iy h_ iz iA iB m=h_):∃a b c,m=.lY a b c:=by
 cases m<;>simp_all[rv]
theorem amo(hd:[iy,h_,iz,iA,iB].Nodup)(h:rv iy h_ iz iA iB m=iz):∃a,m=.ask a:=by
 cases m<;>simp_all[rv]
theorem amp(hd:[iy,h_,iz,iA,iB].Nodup)(h:rv iy h_ iz iA iB m=iA):∃a,m=.iW a:=by
 cases m<;>simp_all[rv]
theorem amq(hd:[iy,h_,iz,iA,iB].Nodup)(h:rv iy h_ iz iA iB m=iB):∃a b,m=.stop a b:=by
 cases m<;>simp_all[rv]
end
def Gu(iy h_ iz iA iB:TypeId)(w:World)(x:Int×Value)(m:Int×eX):Prop:=x.1=m.1/\∃vi,x.2=jt iy h_ iz iA iB vi m.2/\aq eJ w (dq 0 w.heap.size) vi (jQ m.2)
def BD(ms:List eX):List (Int×eX):=ms.map λm=>((0:Int),m)
theorem PG{α β:Type}{R:α->β->Prop}{l:List α}{m:List β}(h:cZ R l m){i:Nat}{a:α}(aw:l[i]?=some a):∃b,m[i]?=some b/\R a b:=by
 obtain⟨h1,ah⟩:=cZ.get h;obtain⟨ar,_⟩:=List.getElem?_eq_some_iff.1 aw;have ab:m[i]?=some m[i]:=List.getElem?_eq_getElem aa;exact⟨_,ab,ah i a _ aw ab⟩
theorem PH{R:Nat->Prop}{iy h_ iz iA iB kM pc:TypeId}{F:Nat->Prop}{w:World}{v:Value}{ms:List eX}(h:(sT (R:=R) iy h_ iz iA iB kM pc v ms).p F w):
 ∃xs,aq nB w (dq 0 w.heap.size) v xs/\cZ (Gu iy h_ iz iA iB w) xs (BD ms):=by
 obtain⟨mU,fe,h1,ah,_⟩:=h;obtain⟨g,aw,_⟩:=h1 0 _ rfl;obtain⟨bj,Zq,bC,cy,_⟩:=h1 1 _ rfl;refine⟨_,aw.ch.cB (Nat.zero_le _) aw.lt,?_⟩
 have key:∀(mU:List Value) (ms:List eX),mU.length=ms.length->(∀(i:Nat) (x:Value×eX),(mU.zip ms)[i]?=some x->∃g,Acc eJ pc 2 w g x.1 (jQ x.2)) ->
  cZ (Gu iy h_ iz iA iB w) ((mU.zip ms).map λx=>((0:Int),jt iy h_ iz iA iB x.1 x.2)) (BD ms):=by
  intro mU
  induction mU with
  | nil=>intro ms bj _;cases ms with
   | nil=>exact .nil
   | cons _ _=>simp at bj
  | cons vi mU b' =>
   intro ms bj hk
   cases ms with
   | nil=>simp at bj
   | cons m ms =>
    obtain⟨g,aU⟩:=hk 0 (vi,m) rfl
    exact .cons ⟨rfl,vi,rfl,aU.ch.cB (Nat.zero_le _) aU.lt⟩ (b' ms (by simpa using bj) λi x ag=>hk (i+1) x ag)
 refine key mU ms bj λi x ag=>?_
 obtain⟨g,h,_⟩:=bC i _ (by rw[List.getElem?_map,ag];rfl);exact⟨g,h⟩
theorem au.Zr{R bS:Nat->Prop}{w0 w:World}{L:List (dk R)}{iy h_ iz iA iB kM pc:TypeId}{v:Value}{m:eX}(h:au R bS w0 w L)(i:Nat)(ar:L[i]?=some (sT iy h_ iz iA iB kM pc v [m])):∃vi,au R bS w0 w (L.set i (bk [aS nB kM 2 v [((0:Int),jt iy h_ iz iA iB vi m)],bk [aS eJ pc 2 vi (jQ m)]])):=by
 obtain⟨mU,h1⟩:=h.Mw ar
 have bj:mU.length=1:=by
  obtain⟨F,⟨fe,bC,_⟩,_⟩:=h1.get (i:=i) (by rw[List.getElem?_set_self (List.getElem?_eq_some_iff.1 ar).1])
  exact(bC 1 _ rfl).1
 match mU,bj with
 | [vi],_ =>
  refine⟨vi,?_⟩
  have ah:=h1.imp (A':=bk [aS nB kM 2 v [((0:Int),jt iy h_ iz iA iB vi m)],bk [aS eJ pc 2 vi (jQ m)]]) (List.getElem?_set_self (List.getElem?_eq_some_iff.1 ar).1) λF k=>by
   obtain⟨fe,bC,cy,dE⟩:=k
   refine⟨fe,λi r ar=>?_,cy,dE⟩
   match i,ar with
   | 0,ar=>cases ar;exact bC 0 _ rfl
   | 1,ar=>cases ar;exact(bC 1 _ rfl).2
  rwa[List.set_set] at ah
theorem zQ{R:Nat->Prop}{kZ qp jh eI u8 lE pj:TypeId}{c_:Nat}{id:Int}{ks:List Int}{s t:d'}{F:Nat->Prop}{w:World}(h:s=t)(x:(iK (R:=R) kZ qp jh eI u8 lE pj c_ id ks s).p F w):(iK (R:=R) kZ qp jh eI u8 lE pj c_ id ks t).p F w:=h▸x
theorem KG{R:Nat->Prop}{kZ qp jh eI u8 lE pj iy h_ iz iA iB kM pc:TypeId}{c_:Nat}{id:Int}{ks:List Int}{v:Value}{p:d'×List eX}{t:d'}{ms:List eX}{F:Nat->Prop}{w:World}(h:p=(t,ms))(x:(bk [iK (R:=R) kZ qp jh eI u8 lE pj c_ id ks p.1,sT iy h_ iz iA iB kM pc v p.2]).p F w):(bk [iK (R:=R) kZ qp jh eI u8 lE pj c_ id ks t,sT iy h_ iz iA iB kM pc v ms]).p F w:=by
 subst h;exact x
end Go.aH
namespace Go.ak
open Go.aH
def Zs(words:List aj)(s:aj):Bool:=qZ words || decide (s.length>100)
theorem atB{words:List aj}{s:aj}(h:Zs words s=false):qZ words=false/\s.length<=100:=by
 unfold Zs at h;simp only[Bool.or_eq_false_iff,decide_eq_false_iff_not] at h;exact⟨h.1,by omega⟩
theorem amr{words:List aj}(h:e6 words=0):∀w∈words,jX w=true:=λw hw=>by
 have:=(wh h).2.1 w hw
 unfold word at this
 simp only[Bool.and_eq_true,decide_eq_true_eq] at this
 have h1:=this.1
 unfold iP at h1
 unfold jX
 split at h1
 . omega
 . exact decide_eq_true bh
end Go.ak
namespace Go.ak
open Go.aH
theorem ams{words:List aj}(h:e6 words=0):∀w∈words,w.length<=1000:=λw hw=>by
 have:=Up ((wh h).2.1 w hw);omega
end Go.ak
namespace Go.ak
open Go.aH
structure oA(c:cD)(w:Int)(K:List cX):Prop where
 ok:pe K
 no:∀k,k∉cn c w->j0 K k=none
 yes:∀k,k∈cn c w->∃b,j0 K k=some (k,gW c k,b)/\(b=gW c k\/∃a x,b=oL (gW c k) a x)
theorem oA.new{c:cD}(h:may c=true)(w:Int):oA c w (nj c w):=⟨IP h w,λk hk=>agL hk,λk hk=>⟨_,Wa hk,.inl rfl⟩⟩
theorem oA.put{c:cD}{w:Int}{K:List cX}(h:oA c w K)(s:Int){f:List UInt8->List UInt8}(bB:∀b,(f b).length=b.length)(aU:∀b,f b=b\/∃a x,f b=oL b a x):oA c w (om K s f):=by
 refine⟨h.ok.put s bB,λk hk=>?_,λk hk=>?_⟩
 . rw[V9,h.no k hk];rfl
 . obtain⟨b,h1,ah⟩:=h.yes k hk;rw[V9,h1,Option.map_some];by_cases aT:k=s
   . exact⟨_,congrArg some (if_pos aT),aU _⟩
   . exact⟨b,congrArg some (if_neg aT),ah⟩
theorem oA.A5{c:cD}{w:Int}{K:List cX}(h:oA c w K)(s a x:Int):oA c w (xM K s a x):=h.put s (λb=>agd b a x) λb=>.inr ⟨a,x,rfl⟩
theorem oA.Zt{c:cD}{w:Int}{K:List cX}(h:oA c w K)(s:Int):oA c w (xN K s):=h.put s (λ_=>rfl) λb=>.inl rfl
theorem oA.read{c:cD}{w:Int}{K:List cX}(h:oA c w K)(k:Int):(k∉cn c w/\iR K k=[])\/(k∈cn c w/\iR K k=gW c k)\/(k∈cn c w/\∃a x,iR K k=oL (gW c k) a x):=by
 by_cases hk:k∈cn c w
 . obtain⟨b,h1,ah⟩:=h.yes k hk;have aB:=(Wb h1).2.1;rcases ah with rfl|⟨a,x,rfl⟩
   . exact .inr (.inl ⟨hk,aB⟩)
   . exact .inr (.inr ⟨hk,a,x,aB⟩)
 . exact .inl ⟨hk,(agM (h.no k hk)).2.1⟩
theorem Zu{c:cD}(hm:may c=true){w k:Int}(hk:k∈cn c w):gW c k=ly (tT c k)/\e6 (tT c k)=0:=⟨(V8 hm (C2 hk).1 (C2 hk).2).1,Ni hm k⟩
theorem Zv{c:cD}(hm:may c=true){w k:Int}(hk:k∈cn c w){K:List cX}(h:iR K k=gW c k):gn K k=h7 (tT c k)/\kL K k=0/\hn K k=tT c k:=by
 obtain⟨h1,ah⟩:=Zu hm hk;unfold gn kL hn;rw[h,h1,M6 ah,V6 ah];exact⟨rfl,rfl,rfl⟩
theorem Zw{b:List UInt8}(h:(iq b).2≠0):(h2 b).1=[]:=by
 rcases V4 b with ⟨h1,_⟩|⟨h1,_⟩|⟨_,h1,_⟩
 . rw[h1]
 . rw[h1]
 . exact absurd ((C0 b).1.trans h1) h
theorem amt{c:cD}(hm:may c=true){w k:Int}(hk:k∈cn c w){K:List cX}{a x:Int}(h:iR K k=oL (gW c k) a x):gn K k=[]/\kL K k=9/\hn K k=[]:=by
 obtain⟨h1,ah⟩:=Zu hm hk;have hd:=agf ah a x;unfold gn kL hn;rw[h,h1,hd];exact⟨rfl,rfl,Zw (by rw[hd];decide)⟩
theorem amu{K:List cX}{k:Int}(h:iR K k=[]):gn K k=[]/\kL K k≠0/\hn K k=[]:=by
 unfold gn kL hn;rw[h];exact⟨by decide +kernel,by decide +kernel,by decide +kernel⟩
theorem oA.wl{c:cD}{w:Int}{K:List cX}(hm:may c=true)(h:oA c w K)(bj:c.words.length<=1000)(k:Int):(hn K k).length<=1000:=by
 rcases h.read k with ⟨_,h1⟩|⟨bK,h1⟩|⟨bK,a,x,h1⟩
 . rw[(amu h1).2.2];exact Nat.zero_le _
 . rw[(Zv hm bK h1).2.2];exact Nat.le_trans (agy k) bj
 . rw[(amt hm bK h1).2.2];exact Nat.zero_le _
theorem oB(c:cD)(w:Int):w7 (cn c w):=⟨IM c w,λk hk=>Pu hk,Nat.le_trans (CR c w) b2⟩
theorem Zx{c:cD}(hm:may c=true)(w:Int)(bj:c.words.length<=1000):ha (cn c w) 1 (sR c w):=
 ⟨⟨(by decide:(0:Int)<=1),Int.le_refl _⟩,IP hm w,(by show bY 0;unfold bY;decide),Nat.zero_le _,(λa aw=>nomatch aw),(oA.new hm w).wl hm bj,(oA.new hm w).wl hm bj⟩
def DX:bc:=⟨0,0,0,0,1,[97],1,2,true,⟨0,[]⟩⟩
def PI:List aj:=[[97],[98]]
def KH:qo:=⟨0,0,0,0,1,1,[⟨0,[97]⟩,⟨1,[98]⟩],true⟩
def Gv:d':=sR nk 1
def BE:d':={ Gv with ep:=1 }
def Gw:d':={ BE with q:=[DX] }
theorem PJ:(0:Int)∈cn nk 1:=by rw[agO];simp
theorem Zy:may nk=true:=(Nn Wc).1
theorem PK:gn (nj nk 1) 0=h7 PI/\hn (nj nk 1) 0=PI:=by
 obtain⟨h1,_,aB⟩:=Zv (K:=nj nk 1) Zy PJ (agN PJ).2.1;have e:tT nk 0=PI:=(by decide +kernel);rw[e] at h1 aB;exact⟨h1,aB⟩
theorem amv:ja 1 Gv=(Gv,[.hB 1 1]):=Gs b2
theorem Zz:j5 1 (cn nk 1) Gv (.lY 1 1 1)=BE:=Pz (Px rfl rfl b2)
theorem ZA:j5 1 (cn nk 1) BE (.ask DX)=Gw:=
 Py (Pw (by decide +kernel) rfl b2 PJ (by show gn (nj nk 1) 0≠[];rw[PK.1];decide +kernel))
theorem amw:ja 1 Gw=(BE,[.iW KH]):=by
 refine(PB b2).trans ?_
 have h:answer 1 Gw DX=KH:=by
  unfold answer
  show(let r:=pK (gn (nj nk 1) 0) (hn (nj nk 1) 0) [97] 1 true ⟨0,[]⟩ 2;(⟨0,0,0,0,1,1,r.1,r.2⟩:qo))=KH
  rw[PK.1,PK.2]
  decide +kernel
 exact congrArg (λr=>(BE,[eX.iW r])) h
theorem PL:ha (cn nk 1) 1 Gv:=Zx Zy 1 b2
theorem ZB:DX.Ok:=⟨by unfold bY;decide,by unfold bY;decide,by unfold bY;decide,by unfold bY;decide,by unfold bY;decide,by unfold bY;decide,by unfold bY;decide,by unfold bY;decide⟩
theorem ZC:ha (cn nk 1) 2 BE:=Zz▸PL.take (id:=1) (m:=.lY 1 1 1) ⟨by unfold bY;decide,by unfold bY;decide,by unfold bY;decide⟩
theorem amx:ha (cn nk 1) 3 Gw:=ZA▸ZC.take (id:=1) (m:=.ask DX) ⟨ZB,by decide,by decide⟩
structure k7 where
 lJ:Int
 i:Int
 j:Int
 x:Int
 a:bc
def qO(x:k7):List Value:=[.int .i64 x.lJ,.int .i64 x.i,.int .i64 x.j,.int .i64 x.x,.int .i64 x.a.slot,.int .i64 x.a.query,.int .i64 x.a.shard,.int .i64 x.a.seq,.int .i64 x.a.fP,aE x.a.text,.int .i64 x.a.k,.int .i64 x.a.batch,.bool x.a.first,.int .i64 x.a.after.ck,aE x.a.after.word]
theorem KI(x:k7):(qO x).length=15:=rfl
structure k7.Ok(y:k7):Prop where
 lJ:bY y.lJ
 i:bY y.i
 j:bY y.j
 x:bY y.x
 a:y.a.Ok
def qq(x:k7):eX:=if x.lJ=1 then .lY x.i x.j x.x else if x.lJ=2 then .ask x.a else if x.lJ=3 then .stop x.i x.j else .hB x.i x.j
theorem amy{x:k7}(h:x.lJ=1):qq x=.lY x.i x.j x.x:=if_pos h
theorem amz{x:k7}(h:x.lJ=2):qq x=.ask x.a:=by unfold qq;rw[if_neg aa,if_pos h]
theorem amA{x:k7}(h:x.lJ=3):qq x=.stop x.i x.j:=by unfold qq;rw[if_neg aa,if_neg aa,if_pos h]
theorem amB{x:k7}(h1:x.lJ≠1)(ah:x.lJ≠2)(aB:x.lJ≠3):qq x=.hB x.i x.j:=by unfold qq;rw[if_neg h1,if_neg ah,if_neg aB]
theorem ZD(id:Int)(ks:List Int)(s:d')(m:eX):(j5 id ks s m).K=s.K/\(j5 id ks s m).B=s.B:=by
 unfold j5;split
 . exact⟨rfl,rfl⟩
 . cases m<;>dsimp only<;>first|exact⟨rfl,rfl⟩|(split<;>exact⟨rfl,rfl⟩)
theorem amC{id:Int}{s:d'}{a:bc}(aU:gn s.B a.shard≠[]):(answer id s a).items=(j_ (hn s.B a.shard) a.text a.k a.first a.after a.batch).1/\(answer id s a).fin=(j_ (hn s.B a.shard) a.text a.k a.first a.after a.batch).2:=by
 obtain⟨h1,ah⟩:=Ns aU;have e:=aij (s:=a.text) (k:=a.k) (first:=a.first) (after:=a.after) (batch:=a.batch) aU (aew h1) (amr h1);exact⟨congrArg (·.1) e,congrArg (·.2) e⟩
theorem amD{id:Int}{s:d'}{a:bc}(aU:gn s.B a.shard≠[]):answer id s a=⟨a.slot,a.query,a.shard,a.seq,id,s.ep,(j_ (hn s.B a.shard) a.text a.k a.first a.after a.batch).1,(j_ (hn s.B a.shard) a.text a.k a.first a.after a.batch).2⟩:=by
 obtain⟨h1,ah⟩:=amC (id:=id) aU;rw[<-h1,<-ah];rfl
theorem amE{B:List cX}{k:Int}(aU:gn B k≠[]):∀w∈hn B k,w.length<=1000:=ams (Ns aU).1
theorem ZE{ks:List Int}{ep life:Int}{K B:List cX}{q:List bc}{k:Int}(h:(nz ks ⟨ep,true,life,K,B,q⟩ k).2=0):k∈ks/\gn B k≠[]:=by
 by_cases hk:k∈ks
 . refine⟨hk,KD.2 ?_⟩;by_cases he:kL B k=0
   . exact he
   . rw[Pt hk he] at h;exact h
 . rw[Ps hk] at h;exact absurd h b2
theorem ZF{ks:List Int}{ep life:Int}{K B:List cX}{q:List bc}{k:Int}(h:(nz ks ⟨ep,true,life,K,B,q⟩ k).2≠0):k∉ks\/gn B k=[]:=by
 by_cases hk:k∈ks
 . right;by_cases aN:gn B k=[]
   . exact aN
   . exact absurd (by rw[KE hk (KD.1 aN)]) h
 . exact .inl hk
theorem amF{ks:List Int}{ep life:Int}{K B:List cX}{q:List bc}{k:Int}(hk:k∈ks)(aN:gn B k≠[]):nz ks ⟨ep,true,life,K,B,q⟩ k=(hn B k,0):=KE hk (KD.1 aN)
end Go.ak
namespace Go.ak
open Go.aH
theorem PM{q:List bc}{i:Nat}{x:bc}{p:Int×Int}(fW:∀z∈q.take i,z.pl≠p)(ag:q[i]?=some x)(hp:x.pl=p):lh q p=some x:=by
 unfold lh;obtain⟨ar,rfl⟩:=List.getElem?_eq_some_iff.1 ag;rw[List.find?_eq_some_iff_getElem];refine⟨decide_eq_true hp,i,ar,rfl,λj bo=>?_⟩;have:=fW (q[j]'aa) (List.mem_take_iff_getElem.2 ⟨j,by omega,rfl⟩);simpa using this
theorem amG{q:List bc}{i:Nat}{p:Int×Int}(fW:∀z∈q.take i,z.pl≠p)(ar:q.length<=i):lh q p=none:=by
 rw[List.take_of_length_le ar] at fW;unfold lh;rw[List.find?_eq_none];intro x ag;simpa using fW x ag
theorem ZG{q:List bc}{i:Nat}{x:bc}{p:Int×Int}(fW:∀z∈q.take i,z.pl≠p)(ag:q[i]?=some x)(hp:x.slot≠p.1\/x.shard≠p.2):∀z∈q.take (i+1),z.pl≠p:=by
 intro z cO;rw[List.take_add_one,ag] at cO;simp only[Option.toList_some,List.mem_append,List.mem_singleton] at cO;rcases cO with cO|rfl
 . exact fW z cO
 . intro e;rw[<-e] at hp;exact hp.elim (λh=>h rfl) (λh=>h rfl)
theorem Gx{x a:bc}(h1:x.slot=a.slot)(ah:x.shard=a.shard):x.pl=a.pl:=Prod.ext h1 ah
theorem ZH{q:List bc}{i:Nat}{x a:bc}(gI:(q.map bc.pl).Nodup)(ag:q[i]?=some x)(hp:x.pl=a.pl):q.set i a=q.map λx=>if x.pl=a.pl then a else x:=by
 obtain⟨ar,rfl⟩:=List.getElem?_eq_some_iff.1 ag;apply List.ext_getElem
 . simp
 . intro j h1 ah;rw[List.getElem_set,List.getElem_map];by_cases bo:i=j
   . subst bo;rw[if_pos rfl,if_pos hp]
   . rw[if_neg bo];have FO:j<q.length:=(by simpa using ah);rw[if_neg];intro e;have:=(List.pairwise_iff_getElem.1 gI);have acO:(q.map bc.pl).length=q.length:=List.length_map ..;rcases Nat.lt_or_gt_of_ne bo with h|h
     . exact this i j aa aa h (by rw[List.getElem_map,List.getElem_map,e,hp])
     . exact this j i aa aa h (by rw[List.getElem_map,List.getElem_map,e,hp])
theorem ZI{q l:List bc}{i:Nat}{x:bc}{slot query:Int}(bj:l=lj (q.take i) slot query)(ag:q[i]?=some x)(h:x.slot≠slot\/x.query>query):l++[x]=lj (q.take (i+1)) slot query:=by
 rw[bj,List.take_add_one,ag];unfold lj;rw[List.filter_append];have:uj slot query x=false:=by unfold uj;exact decide_eq_false aa
 simp[this]
theorem amH{q l:List bc}{i:Nat}{x:bc}{slot query:Int}(bj:l=lj (q.take i) slot query)(ag:q[i]?=some x)(h1:x.slot=slot)(ah:¬ x.query>query):l=lj (q.take (i+1)) slot query:=by
 rw[bj,List.take_add_one,ag];unfold lj;rw[List.filter_append];have:uj slot query x=true:=by unfold uj;exact decide_eq_true aa
 simp[this]
theorem DY{a:bc}(h:vn [a.query,a.seq,a.fP]=false\/¬ (0<=a.slot/\a.slot<=3)\/¬ (0<=a.shard/\a.shard<=5)\/¬ (0<=a.k/\a.k<=4)\/¬ (1<=a.batch/\a.batch<=5)\/asked a.text=false):false=nS a:=by
 symm;unfold nS;rcases h with h|h|h|h|h|h
 . rw[h];simp
 . have:tp a.slot a.shard=false:=by unfold tp;exact decide_eq_false aa
   rw[this];simp
 . have:tp a.slot a.shard=false:=by unfold tp;exact decide_eq_false aa
   rw[this];simp
 . rw[decide_eq_false (p:=0<=a.k/\a.k<=4/\1<=a.batch/\a.batch<=5) aa];simp
 . rw[decide_eq_false (p:=0<=a.k/\a.k<=4/\1<=a.batch/\a.batch<=5) aa];simp
 . rw[h];simp
theorem amI{a:bc}{b:Bool}(h1:vn [a.query,a.seq,a.fP]=true)(ah:0<=a.slot/\a.slot<=3)(aB:0<=a.shard/\a.shard<=5)(bE:0<=a.k/\a.k<=4)(c6:1<=a.batch/\a.batch<=5)(eZ:asked a.text=true)(ab:b=wI a):b=nS a:=by
 have kB:tp a.slot a.shard=true:=(by unfold tp;exact decide_eq_true aa);unfold nS;rw[h1,eZ,kB,decide_eq_true (p:=0<=a.k/\a.k<=4/\1<=a.batch/\a.batch<=5) aa,ab];simp
def DZ(vi:Value):eX->List Value
 | .hB a b=>[.int .i64 1,.int .i64 a,.int .i64 b,.int .i64 0,.int .i64 0,.int .i64 0,.int .i64 0,.int .i64 0,.int .i64 0,.int .i64 0,.int .i64 0,aE [],.int .i64 0,.int .i64 0,.bool false,.int .i64 0,aE [],.int .i64 0,.int .i64 0,.int .i64 0,.int .i64 0,.int .i64 0,.int .i64 0,.slice none 0 0,.bool false,.int .i64 0,.int .i64 0]
 | .lY a b c=>[.int .i64 2,.int .i64 0,.int .i64 0,.int .i64 a,.int .i64 b,.int .i64 c,.int .i64 0,.int .i64 0,.int .i64 0,.int .i64 0,.int .i64 0,aE [],.int .i64 0,.int .i64 0,.bool false,.int .i64 0,aE [],.int .i64 0,.int .i64 0,.int .i64 0,.int .i64 0,.int .i64 0,.int .i64 0,.slice none 0 0,.bool false,.int .i64 0,.int .i64 0]
 | .ask a=>[.int .i64 3,.int .i64 0,.int .i64 0,.int .i64 0,.int .i64 0,.int .i64 0,.int .i64 a.slot,.int .i64 a.query,.int .i64 a.shard,.int .i64 a.seq,.int .i64 a.fP,aE a.text,.int .i64 a.k,.int .i64 a.batch,.bool a.first,.int .i64 a.after.ck,aE a.after.word,.int .i64 0,.int .i64 0,.int .i64 0,.int .i64 0,.int .i64 0,.int .i64 0,.slice none 0 0,.bool false,.int .i64 0,.int .i64 0]
 | .iW r=>[.int .i64 4,.int .i64 0,.int .i64 0,.int .i64 0,.int .i64 0,.int .i64 0,.int .i64 0,.int .i64 0,.int .i64 0,.int .i64 0,.int .i64 0,aE [],.int .i64 0,.int .i64 0,.bool false,.int .i64 0,aE [],.int .i64 r.slot,.int .i64 r.query,.int .i64 r.shard,.int .i64 r.seq,.int .i64 r.worker,.int .i64 r.fP,vi,.bool r.fin,.int .i64 0,.int .i64 0]
 | .stop a b=>[.int .i64 5,.int .i64 0,.int .i64 0,.int .i64 0,.int .i64 0,.int .i64 0,.int .i64 0,.int .i64 0,.int .i64 0,.int .i64 0,.int .i64 0,aE [],.int .i64 0,.int .i64 0,.bool false,.int .i64 0,aE [],.int .i64 0,.int .i64 0,.int .i64 0,.int .i64 0,.int .i64 0,.int .i64 0,.slice none 0 0,.bool false,.int .i64 a,.int .i64 b]
theorem ZJ(vi:Value)(m:eX):(DZ vi m).length=27:=by cases m<;>rfl
def sU(x:Value×eX):List Value:=.int .i64 0::DZ x.1 x.2
theorem yq(x:Value×eX):(sU x).length=28:=congrArg (· + 1) (ZJ x.1 x.2)
def kq(ks:List Int)(B:List cX):List (Int×List aj×Int):=ks.map λk=>(k,hn B k,kL B k)
def D0(ks:List Int)(s:d'):List (Int×List aj×Int):=if s.up=true then kq ks s.B else[]
theorem amJ{ks:List Int}{B:List cX}{i:Nat}{k:Int}(hk:ks[i]?=some k):kq (ks.take i) B++[(k,hn B k,kL B k)]=kq (ks.take (i+1)) B:=by
 unfold kq;rw[List.take_add_one,hk,Option.toList_some,List.map_append];rfl
theorem amK{B:List cX}{k:Int}(h:kL B k≠0):hn B k=[]:=Zw h
theorem amL(B:List cX)(k:Int):(h2 (iR B k)).2=kL B k:=((C0 _).1).symm
theorem amM{ks:List Int}{ep life:Int}{K B:List cX}{q:List bc}{k:Int}{i:Nat}{e:Int×List aj×Int}(ag:(kq ks B)[i]?=some e)(he:e.1=k):nz ks ⟨ep,true,life,K,B,q⟩ k=(e.2.1,e.2.2):=by
 unfold kq at ag;rw[List.getElem?_map] at ag
 cases hk:ks[i]? with
 | none=>rw[hk] at ag;cases ag
 | some cy =>
  rw[hk] at ag;have ah:=Option.some.inj ag;subst ah;dsimp only at he;subst he;have hm:=List.mem_of_getElem? hk;by_cases bK:kL B cy=0
  . rw[KE hm bK];dsimp only;rw[bK]
  . rw[Pt hm bK];dsimp only;rw[amK bK]
theorem amN{ks:List Int}{ep life:Int}{K B:List cX}{q:List bc}{k:Int}(h:∀z∈kq ks B,z.1≠k):nz ks ⟨ep,true,life,K,B,q⟩ k=([],4):=by
 exact Ps λhk=>h _ (List.mem_map_of_mem (f:=λk=>(k,hn B k,kL B k)) hk) rfl
theorem amO{S:List (Int×List aj×Int)}{i:Nat}{e:Int×List aj×Int}{k:Int}(fW:∀z∈S.take i,z.1≠k)(ag:S[i]?=some e)(he:e.1≠k):∀z∈S.take (i+1),z.1≠k:=by
 intro z cO;rw[List.take_add_one,ag] at cO;simp only[Option.toList_some,List.mem_append,List.mem_singleton] at cO;rcases cO with cO|rfl
 . exact fW z cO
 . exact he
end Go.ak
namespace Go.aH
open Go Go.ak
structure oC where
 n:Int
 w:cK
 e:Int
def iL(x:oC):List Value:=[.int .i64 x.n,x.w.val,.int .i64 x.e]
theorem KJ(x:oC):(iL x).length=3:=rfl
theorem amP(x:oC):(iL x).all (·.oneCell')=true:=rfl
def iX{R:Nat->Prop}(rows:List oC)(S:List (Int×List aj×Int)):dk R:=⟨λF w=>cZ (λr e=>r.n=e.1/\aq cC w F r.w.val e.2.1/\r.e=e.2.2) rows S,λh hm bs _=>cZ.imp (λ_ _ k=>⟨k.1,k.2.1.keep hm bs,k.2.2⟩) h⟩
theorem amQ{R F:Nat->Prop}{w:World}{rows:List oC}{S:List (Int×List aj×Int)}{t:TypeId}{x:cK}{v:Value}{n e:Int}{l:List aj}(cI:v=x.val)(h:(bk (R:=R) [iX rows S,aS cC t 1 v l]).p F w):(iX (R:=R) (rows++[⟨n,x,e⟩]) (S++[(n,l,e)])).p F w:=by
 obtain⟨fq,bu,h1,ah,aB,bE⟩:=u_ h;exact cZ.app (cZ.imp (λ_ _ k=>⟨k.1,k.2.1.mono aB,k.2.2⟩) h1) (.cons ⟨rfl,cI▸(th ah).mono bE,rfl⟩ .nil)
def k8{R:Nat->Prop}(lE D1:TypeId)(dc:Nat)(q:List bc):dk R:=nK λv:Value=>bk [ax dc [v] lE,aS eC D1 11 v q]
def ia{R:Nat->Prop}(qp C3 eI KK lE D1:TypeId)(bv:Nat)(da db:Value)(c:cD)(id:Int)(s:d'):dk R:=nK λx:Nat×Nat×Value×List oC =>
 bk [ax bv [da,db,.int .i64 c.workers,.int .i64 c.lK,.int .i64 c.s3,.int .i64 c.batch,.int .i64 c.s4,.int .i64 c.s5,.int .i64 c.first,.int .i64 c.cap,.int .i64 c.s6,.int .i64 c.s7,.int .i64 id,ptr x.1 0,.bool s.up,.int .i64 (zN s),x.2.2.1,ptr x.2.1 0] qp,kv C3 eI x.1 s.life s.K,aS iL KK 3 x.2.2.1 x.2.2.2,iX x.2.2.2 (D0 (cn c id) s),k8 lE D1 x.2.1 (yo s)]
theorem w'{R F:Nat->Prop}{w:World}{α:Type}{enc:α->List Value}{e:TypeId}{sz:Nat}{v:Value}{l jV:List α}(bj:l=jV)(h:(aS (R:=R) enc e sz v l).p F w):(aS (R:=R) enc e sz v jV).p F w:=by subst bj;exact h
theorem au.mV{R bS:Nat->Prop}{w0 w:World}{L:List (dk R)}{qp C3 eI KK lE D1:TypeId}{bv dh dc:Nat}{da db nN:Value}{c:cD}{id:Int}{s:d'}{rows:List oC}(h:au R bS w0 w L)(i:Nat)
 (ar:L[i]?=some (bk [ax bv [da,db,.int .i64 c.workers,.int .i64 c.lK,.int .i64 c.s3,.int .i64 c.batch,.int .i64 c.s4,.int .i64 c.s5,.int .i64 c.first,.int .i64 c.cap,.int .i64 c.s6,.int .i64 c.s7,.int .i64 id,ptr dh 0,.bool s.up,.int .i64 (zN s),nN,ptr dc 0] qp,kv C3 eI dh s.life s.K,aS iL KK 3 nN rows,iX rows (D0 (cn c id) s),k8 lE D1 dc (yo s)])):au R bS w0 w (L.set i (ia qp C3 eI KK lE D1 bv da db c id s)):=
 h.imp ar λF x=>⟨(dh,dc,nN,rows),x⟩
def vQ{R:Nat->Prop}(kM:TypeId)(v:Value)(ms:List eX):dk R:=nK λmU:List Value=>bk [aS sU kM 28 v (mU.zip ms),pD (mU.length=ms.length) (bk ((mU.zip ms).map λx=>fa eJ [(x.1,jQ x.2)]))]
theorem amR{R:Nat->Prop}{kM:TypeId}{w:World}:(vQ (R:=R) kM (.slice none 0 0) []).p (λ_=>False) w:=
 ⟨[],λ_ _=>False,λi r ar=>by
  match i,ar with
  | 0,ar=>cases ar;exact⟨0,Acc.nil,λb ab=>by omega⟩
  | 1,ar=>cases ar;exact⟨rfl,λ_ _=>False,⟨λi r ar=>by simp at ar,⟨λ_ _ h=>False.elim h,λ_ _ _ _ h _=>False.elim h⟩⟩⟩,λ_ _ h=>h.elim,λ_ _ _ _ h _=>h.elim⟩
theorem PN{R:Nat->Prop}{kM:TypeId}{F:Nat->Prop}{w:World}{v vi:Value}{m:eX}(h:(bk [aS (R:=R) sU kM 28 v [(vi,m)],bk [fa eJ [(vi,jQ m)]]]).p F w):(vQ (R:=R) kM v [m]).p F w:=by
 obtain⟨fe,h1,ah,aB⟩:=h;refine⟨[vi],fe,λi r ar=>?_,ah,aB⟩
 match i,ar with
 | 0,ar=>cases ar;exact h1 0 _ rfl
 | 1,ar=>cases ar;exact⟨rfl,h1 1 _ rfl⟩
theorem au.ZK{R bS:Nat->Prop}{w0 w:World}{L:List (dk R)}{iy h_ iz iA iB kM pc:TypeId}{v:Value}(h:au R bS w0 w L)(i:Nat)(ar:L[i]?=some (sT iy h_ iz iA iB kM pc v [])):au R bS w0 w (L.set i (aS nB kM 2 v ([]:List (Int×Value)))):=
 h.imp ar λF ⟨mU,fe,bC,cy,_⟩=>by
  obtain⟨g,aw,ab⟩:=bC 0 _ rfl
  rw[List.zip_nil_right] at aw
  exact⟨g,aw,λb h=>(cy 0 b (ab b h)).1.1⟩
theorem au.ZL{R bS:Nat->Prop}{w0 w:World}{L:List (dk R)}{i:Nat}{rows:List oC}{S:List (Int×List aj×Int)}(h:au R bS w0 w L)(ar:L[i]?=some (iX rows S)):cZ (λr e=>r.n=e.1/\aq cC w (dq 0 w.heap.size) r.w.val e.2.1/\r.e=e.2.2) rows S:=by
 obtain⟨F,h1,ah⟩:=h.get ar;exact cZ.imp (λ_ _ k=>⟨k.1,k.2.1.mono (λb ab=>⟨Nat.zero_le _,ah b ab⟩),k.2.2⟩) h1
theorem amS{R F:Nat->Prop}{w:World}{lE pj:TypeId}{dc:Nat}{q:List bc}(h:(j2 (R:=R) lE pj dc q).p F w):(q.map bc.pl).Nodup:=by
 obtain⟨_,dH,_⟩:=h;exact jm.vl dH
end Go.aH
namespace Go.ak
open Go.aH
def nC(id:Int)(ks:List Int)(s:d')(x:k7):d':=
 if x.lJ=0 then(ja id s).1 else if 1<=x.lJ/\x.lJ<=4 then j5 id ks s (qq x) else
 if x.lJ=5 then { s with up:=false } else if x.lJ=6 then(if s.up=true then s else DS s) else
 if x.lJ=7 then { s with K:=xM s.K x.i x.j x.x } else if x.lJ=8 then { s with K:=xN s.K x.i } else s
section
variable {id:Int} {ks:List Int} {s:d'} {x:k7}
theorem amT(h:x.lJ=0):nC id ks s x=(ja id s).1:=if_pos h
theorem KL(h:1<=x.lJ/\x.lJ<=4):nC id ks s x=j5 id ks s (qq x):=by unfold nC;rw[if_neg aa,if_pos h]
theorem amU(h:x.lJ=5):nC id ks s x={ s with up:=false }:=by unfold nC;rw[if_neg aa,if_neg aa,if_pos h]
theorem amV(h:x.lJ=6):nC id ks s x=(if s.up=true then s else DS s):=by unfold nC;rw[if_neg aa,if_neg aa,if_neg aa,if_pos h]
theorem amW(h:x.lJ=7):nC id ks s x={ s with K:=xM s.K x.i x.j x.x }:=by unfold nC;rw[if_neg aa,if_neg aa,if_neg aa,if_neg aa,if_pos h]
theorem amX(h:x.lJ=8):nC id ks s x={ s with K:=xN s.K x.i }:=by unfold nC;rw[if_neg aa,if_neg aa,if_neg aa,if_neg aa,if_neg aa,if_pos h]
theorem amY(h:¬ (0<=x.lJ/\x.lJ<=8)):nC id ks s x=s:=by
 unfold nC;rw[if_neg aa,if_neg aa,if_neg aa,if_neg aa,if_neg aa,if_neg aa]
end
structure kV(c:cD)(id:Int)(n:Nat)(s:d'):Prop where
 ok:ha (cn c id) n s
 K:oA c id s.K
 B:oA c id s.B
section
variable {c:cD} {id:Int} {n:Nat} {s:d'}
theorem ZM(id:Int)(s:d'):(ja id s).1.K=s.K/\(ja id s).1.B=s.B:=by
 unfold ja;split
 . exact⟨rfl,rfl⟩
 . split
   . split<;>exact⟨rfl,rfl⟩
   . exact⟨rfl,rfl⟩
theorem yr{x:k7}(h:x.Ok)(a8:x.a.text.length<=1000)(aw:x.a.after.word.length<=1000):(qq x).Ok:=by
 unfold qq;split
 . exact⟨h.i,h.j,h.x⟩
 . split
   . exact⟨h.a,a8,aw⟩
   . split
     . exact⟨h.i,h.j⟩
     . exact⟨h.i,h.j⟩
theorem uE(x:k7)(r:qo):qq x≠.iW r:=by
 unfold qq;split
 . exact λe=>by cases e
 . split
   . exact λe=>by cases e
   . split<;>exact λe=>by cases e
theorem kV.new(hm:may c=true)(bj:c.words.length<=1000)(id:Int):kV c id 1 (sR c id):=⟨Zx hm id bj,oA.new hm id,oA.new hm id⟩
theorem kV.more{m:Nat}(h:kV c id n s)(hm:n<=m):kV c id m s:=⟨h.ok.more hm,h.K,h.B⟩
theorem kV.take{m:eX}(h:kV c id n s)(hm:m.Ok):kV c id (n+1) (j5 id (cn c id) s m):=
 ⟨h.ok.take hm,by rw[(ZD ..).1];exact h.K,by rw[(ZD ..).2];exact h.B⟩
theorem kV.Pr(h:kV c id n s):kV c id n (ja id s).1:=⟨h.ok.Pr,by rw[(ZM ..).1];exact h.K,by rw[(ZM ..).2];exact h.B⟩
theorem kV.yp(h:kV c id n s):kV c id n { s with up:=false }:=⟨h.ok.yp,h.K,h.B⟩
theorem kV.begin(h:kV c id n s):kV c id (n+1) (DS s):=⟨h.ok.begin,h.K,h.K⟩
theorem kV.KC{K:List cX}(hm:may c=true)(bj:c.words.length<=1000)(h:kV c id n s)(eR:oA c id K):kV c id n { s with K:=K }:=⟨h.ok.KC eR.ok (eR.wl hm bj),eR,h.B⟩
theorem kV.done{x:k7}(hm:may c=true)(bj:c.words.length<=1000)(h:kV c id n s)(ag:x.Ok)(a8:x.a.text.length<=1000)(aw:x.a.after.word.length<=1000):kV c id (n+1) (nC id (cn c id) s x):=by
 have h1:=h.more (Nat.le_succ n);unfold nC;split
 . exact h1.Pr
 . split
   . exact h.take (yr ag a8 aw)
   . split
     . exact h1.yp
     . split
       . split
         . exact h1
         . exact h.begin
       . split
         . exact h1.KC hm bj (h.K.A5 _ _ _)
         . split
           . exact h1.KC hm bj (h.K.Zt _)
           . exact h1
end
theorem ZN(id:Int){ks:List Int}{n:Nat}{s:d'}(h:ha ks n s):(ja id s).2=[]\/(∃a b,(ja id s).2=[.hB a b])\/∃r,(ja id s).2=[.iW r]/\r.items.length<=1000000:=by
 unfold ja;split
 . exact .inl rfl
 . split
   . split
     . rename_i a q dH;refine .inr (.inr ⟨_,rfl,?_⟩);have h1:=ah6 (g:=gn s.B a.shard) (words:=hn s.B a.shard) (s:=a.text) (k:=a.k) (batch:=a.batch) (first:=a.first) (after:=a.after);have ah:=h.c_ a.shard;show(pK _ _ _ _ _ _ _).1.length<=_;omega
     . exact .inr (.inl ⟨_,_,rfl⟩)
   . exact .inr (.inl ⟨_,_,rfl⟩)
end Go.ak
namespace Go.aH
open Go Go.ak
def amZ(iy h_ iz iA iB:TypeId)(x:Value×eX):List Value:=[.int .i64 0,jt iy h_ iz iA iB x.1 x.2]
def ZO(iy h_ iz iA iB:TypeId)(x:Value×eX):Int×Value:=((0:Int),jt iy h_ iz iA iB x.1 x.2)
theorem aq.map{α β:Type}{enc:α->List Value}{ZP:β->List Value}{f:α->β}(bB:∀x,ZP (f x)=enc x){w:World}{F:Nat->Prop}{v:Value}{l:List α}(h:aq enc w F v l):aq ZP w F v (l.map f):=by
 obtain⟨a,cap,h1,ah,aB,bE⟩:=h;refine⟨a,cap,by rw[List.length_map];exact h1,by rw[List.length_map];exact ah,aB,?_⟩;rcases bE with rfl|⟨b,off,c6,eZ,kB⟩
 . exact .inl rfl
 . exact .inr ⟨b,off,c6,eZ,by rw[List.flatMap_map];simpa only[bB] using kB⟩
theorem am0{w:World}{b o:Nat}{x:Value×eX}(h:Row w b o (sU x)):Row w b (o+1) (DZ x.1 x.2):=λi v cI=>by
 have:=h (i+1) v (by rw[sU,List.getElem?_cons_succ];exact cI)
 rwa[show o+(i+1)=o+1+i by omega] at this
theorem ZQ{iy h_ iz iA iB:TypeId}{w:World}:∀{xs:List (Value×eX)},(∀x∈xs,aq eJ w (dq 0 w.heap.size) x.1 (jQ x.2))->cZ (Gu iy h_ iz iA iB w) (xs.map (ZO iy h_ iz iA iB)) (BD (xs.map (·.2)))
 | [],_=>.nil
 | x::xs,h=>.cons ⟨rfl,x.1,rfl,h x (List.mem_cons_self ..)⟩ (ZQ λy aD=>h y (List.mem_cons_of_mem _ aD))
def KM{R:Nat->Prop}(kM:TypeId)(v:Value)(xs:List (Value×eX)):dk R:=bk [aS sU kM 28 v xs,bk (xs.map λx=>fa eJ [(x.1,jQ x.2)])]
theorem au.am1{R bS:Nat->Prop}{w0 w:World}{L:List (dk R)}{kM:TypeId}{v:Value}{ms:List eX}(h:au R bS w0 w L)(i:Nat)(ar:L[i]?=some (vQ kM v ms)):∃xs,xs.map (·.2)=ms/\au R bS w0 w (L.set i (KM kM v xs)):=by
 obtain⟨mU,h1⟩:=h.Mw ar
 have bj:mU.length=ms.length:=by
  obtain⟨F,⟨fe,bC,_⟩,_⟩:=h1.get (i:=i) (by rw[List.getElem?_set_self (List.getElem?_eq_some_iff.1 ar).1])
  exact(bC 1 _ rfl).1
 refine⟨mU.zip ms,by rw[List.map_snd_zip (Nat.le_of_eq bj.symm)],?_⟩
 have ah:=h1.imp (A':=KM kM v (mU.zip ms)) (List.getElem?_set_self (List.getElem?_eq_some_iff.1 ar).1) λF k=>by
  obtain⟨fe,bC,cy,dE⟩:=k
  refine⟨fe,λi r ar=>?_,cy,dE⟩
  match i,ar with
  | 0,ar=>cases ar;exact bC 0 _ rfl
  | 1,ar=>cases ar;exact(bC 1 _ rfl).2
 rwa[List.set_set] at ah
theorem au.ZR{R bS:Nat->Prop}{w0 w:World}{L:List (dk R)}{kM:TypeId}{v:Value}{xs:List (Value×eX)}(h:au R bS w0 w L)(i:Nat)(ar:L[i]?=some (KM kM v xs)):aq sU w (dq 0 w.heap.size) v xs/\∀x∈xs,aq eJ w (dq 0 w.heap.size) x.1 (jQ x.2):=by
 obtain⟨F,⟨fe,h1,ah,_⟩,bs⟩:=h.get ar;refine⟨(th (h1 0 _ rfl)).mono λb ab=>⟨Nat.zero_le _,bs b (ah 0 b ab).1.1⟩,λx ag=>?_⟩;obtain⟨Zq,bC,cy,_⟩:=h1 1 _ rfl;obtain⟨j,bo⟩:=List.getElem?_of_mem ag;have aT:aq eJ w (λb=>Zq j b\/R b) x.1 (jQ x.2):=bC j (fa eJ [(x.1,jQ x.2)]) (by rw[List.getElem?_map,bo];rfl) (x.1,jQ x.2) (List.mem_cons_self ..);exact aT.mono λb ab=>⟨Nat.zero_le _,ab.elim (λab=>bs b (ah 1 b (cy j b ab).1.1).1.1) (h.t_ b)⟩
end Go.aH
namespace Go.ak
open Go.aH
def xa(x:k7):Bool:=decide (x.a.text.length>100) || decide (x.a.after.word.length>100)
def BF(c:cD)(acts:List k7)(nc:Int):Bool:=(decide ((acts.length:Int)<=nc) && acts.any xa) || (sm c || decide ((acts.length:Int)>nc))
theorem am2{c:cD}{acts:List k7}{nc:Int}(h:BF c acts nc=false):sm c=false/\(acts.length:Int)<=nc/\∀a∈acts,a.a.text.length<=100/\a.a.after.word.length<=100:=by
 unfold BF at h;simp only[Bool.or_eq_false_iff,Bool.and_eq_false_iff,decide_eq_false_iff_not] at h;obtain⟨h1,ah,aB⟩:=h;refine⟨ah,by omega,λa aw=>?_⟩;rcases h1 with h1|h1
 . omega
 . rw[List.any_eq_false] at h1;have:=h1 a aw;unfold xa at this;simp only[Bool.not_eq_true,Bool.or_eq_false_iff,decide_eq_false_iff_not] at this;omega
theorem ZS{c:cD}{acts:List k7}{nc:Int}{i:Nat}{x:k7}(ag:acts[i]?=some x)(hm:(acts.length:Int)<=nc)(h:(x.a.text.length:Int)>100\/(x.a.after.word.length:Int)>100):true=BF c acts nc:=by
 unfold BF;have h1:acts.any xa=true:=List.any_eq_true.2 ⟨x,List.mem_of_getElem? ag,by unfold xa;rcases h with h|h<;>simp<;>omega⟩;rw[h1,decide_eq_true hm];rfl
theorem am3{c:cD}{acts:List k7}{nc:Int}{i:Nat}{b:Bool}(aN:∀z∈acts.take i,xa z=false)(ar:acts.length<=i\/(acts.length:Int)>nc)(ab:b=(sm c || decide ((acts.length:Int)>nc))):b=BF c acts nc:=by
 rw[ab];unfold BF;rcases ar with ar|ar
 . rw[List.take_of_length_le ar] at aN;have:acts.any xa=false:=List.any_eq_false.2 λx ag=>by simp[aN x ag]
   rw[this,Bool.and_false,Bool.false_or]
 . rw[decide_eq_false (by omega:¬ (acts.length:Int)<=nc),Bool.false_and,Bool.false_or]
theorem am4{acts:List k7}{i:Nat}{x:k7}(aN:∀z∈acts.take i,xa z=false)(ag:acts[i]?=some x)(h1:¬ (x.a.text.length:Int)>100)(ah:¬ (x.a.after.word.length:Int)>100):∀z∈acts.take (i+1),xa z=false:=by
 intro z cO;rw[List.take_add_one,ag] at cO;simp only[Option.toList_some,List.mem_append,List.mem_singleton] at cO;rcases cO with cO|rfl
 . exact aN z cO
 . unfold xa;rw[decide_eq_false aa,decide_eq_false aa];rfl
theorem am5{c:cD}{id:Int}(hm:may c=true)(bj:c.words.length<=1000){acts:List k7}(ag:∀a∈acts,a.Ok/\a.a.text.length<=1000/\a.a.after.word.length<=1000):kV c id (acts.length+1) (acts.foldl (nC id (cn c id)) (sR c id)):=by
 have key:∀(l:List k7) (n:Nat) (s:d'),(∀a∈l,a.Ok/\a.a.text.length<=1000/\a.a.after.word.length<=1000)->kV c id n s->kV c id (l.length+n) (l.foldl (nC id (cn c id)) s):=by
  intro l
  induction l with
  | nil=>intro n s _ h;simpa using h
  | cons a l b' =>
   intro n s dr h
   obtain⟨h1,ah,aB⟩:=dr a (List.mem_cons_self ..)
   have:=b' (n+1) (nC id (cn c id) s a) (λb ab=>dr b (List.mem_cons_of_mem _ ab)) (h.done hm bj h1 ah aB)
   rw[List.length_cons,List.foldl_cons]
   exact this.more aa
 exact key acts 1 _ ag (kV.new hm bj id)
section
variable {c:cD} {id:Int} {n:Nat} {s:d'} {k:Int}
theorem am6{a:Int}(h:bY a):IntKind.i64.wrap (a+1)≠a:=by
 unfold bY at h;by_cases hm:a=9223372036854775807
 . subst hm;decide
 . rw[IntWalk.i64_in _ aa];omega
theorem am7(a:Int):bY (IntKind.i64.wrap a):=by
 have e:IntKind.i64.wrap a=if 9223372036854775808<=a % 18446744073709551616 then a % 18446744073709551616-18446744073709551616 else a % 18446744073709551616:=by
  unfold IntKind.wrap
  by_cases h:9223372036854775808<=a % 18446744073709551616
  . rw[if_pos h];exact if_pos (by rw[Bool.and_eq_true];exact⟨rfl,decide_eq_true h⟩)
  . rw[if_neg h];exact if_neg (by rw[Bool.and_eq_true];exact λk=>h (of_decide_eq_true k.2))
 unfold bY;rw[e];split<;>omega
theorem am8{id:Int}{ks:List Int}{a:bc}(h:bY s.ep)(aw:a.fP=IntKind.i64.wrap (zN s+1)):j5 id ks s (.ask a)=s:=by
 obtain⟨ep,up,life,K,B,q⟩:=s
 cases up with
 | false=>rfl
 | true=>exact vP (Pv (by rw[aw];exact am6 h))
theorem am9{id:Int}{ks:List Int}{a:bc}(h:(nz ks s a.shard).2≠0):j5 id ks s (.ask a)=s:=by
 obtain⟨ep,up,life,K,B,q⟩:=s
 cases up with
 | false=>rfl
 | true=>exact vP (KF (ZF h))
theorem ZT{id:Int}:ja id { s with up:=false }=({ s with up:=false },[]):=rfl
end
end Go.ak
namespace Go.Proofs
open Tryz
open Go.aH Go.ak
theorem KN:ey Tryz.prog 20=some (false,1,16,[.nilIface]):=aQ
theorem ZU:ey Tryz.prog 28=some (false,1,8,[ad]):=aQ
theorem n2:ey Tryz.prog 38=some (true,3,24,[ad,ad,ad]):=aQ
theorem ry:ey Tryz.prog 39=some (false,1,24,[.slice none 0 0]):=aQ
theorem qP:ey Tryz.prog 44=some (true,2,24,[ad,.nilIface]):=aQ
theorem uF:ey Tryz.prog 46=some (true,2,16,[ad,ad]):=aQ
theorem p1:ey Tryz.prog 49=some (true,8,80,[ad,ad,ad,ad,ad,ad,.slice none 0 0,.bool false]):=aQ
theorem PO:ey Tryz.prog 62=some (false,1,8,[.pointer none]):=aQ
theorem uG:ey Tryz.prog 71=some (true,15,136,[ad,ad,ad,ad,ad,ad,ad,ad,ad,aE [],ad,ad,.bool false,ad,aE []]):=aQ
theorem Gy:ey Tryz.prog 92=some (false,1,8,[.map none]):=aQ
theorem KO:ey Tryz.prog 101=some (true,2,16,[.pointer none,ad]):=aQ
theorem kf:ey Tryz.prog 104=some (true,2,16,[ad,ad]):=aQ
theorem BG:ey Tryz.prog 127=some (false,1,8,[.pointer none]):=aQ
theorem zR:ey Tryz.prog 130=some (false,1,24,[.slice none 0 0]):=aQ
theorem D2:ey Tryz.prog 131=some (false,1,8,[.pointer none]):=aQ
theorem tD:ey Tryz.prog 140=some (true,27,248,[ad,ad,ad,ad,ad,ad,ad,ad,ad,ad,ad,aE [],ad,ad,.bool false,ad,aE [],ad,ad,ad,ad,ad,ad,.slice none 0 0,.bool false,ad,ad]):=aQ
theorem yu:ey Tryz.prog 147=some (false,1,24,[.slice none 0 0]):=aQ
theorem zS:ey Tryz.prog 194=some (true,3,56,[ad,.slice none 0 0,.slice none 0 0]):=aQ
theorem Gz:ey Tryz.prog 198=some (true,3,40,[ad,.slice none 0 0,ad]):=aQ
theorem zT:ey Tryz.prog 200=some (true,28,256,[ad,ad,ad,ad,ad,ad,ad,ad,ad,ad,ad,ad,aE [],ad,ad,.bool false,ad,aE [],ad,ad,ad,ad,ad,ad,.slice none 0 0,.bool false,ad,ad]):=aQ
theorem zU:ey Tryz.prog 249=some (false,1,24,[.slice none 0 0]):=aQ
theorem sf:ey Tryz.prog 251=some (true,2,32,[.bool false,.slice none 0 0]):=aQ
theorem D3:ey Tryz.prog 252=some (true,2,16,[ad,ad]):=aQ
theorem qQ:ey Tryz.prog 286=some (false,1,24,[.slice none 0 0]):=aQ
theorem uH:ey Tryz.prog 290=some (true,2,48,[.slice none 0 0,.slice none 0 0]):=aQ
theorem ZV:dF Tryz.prog 38 0=some 0:=aQ
theorem ZW:dF Tryz.prog 38 1=some 1:=aQ
theorem KP:dF Tryz.prog 38 2=some 2:=aQ
theorem ZX:dF Tryz.prog 44 0=some 0:=aQ
theorem KQ:dF Tryz.prog 44 1=some 1:=aQ
theorem ZY:dF Tryz.prog 49 0=some 0:=aQ
theorem ZZ:dF Tryz.prog 49 1=some 1:=aQ
theorem Z0:dF Tryz.prog 49 2=some 2:=aQ
theorem Z1:dF Tryz.prog 49 3=some 3:=aQ
theorem Z2:dF Tryz.prog 49 4=some 4:=aQ
theorem Z3:dF Tryz.prog 49 5=some 5:=aQ
theorem KR:dF Tryz.prog 49 6=some 6:=aQ
theorem PQ:dF Tryz.prog 49 7=some 7:=aQ
theorem Z4:dF Tryz.prog 71 0=some 0:=aQ
theorem BH:dF Tryz.prog 71 1=some 1:=aQ
theorem GA:dF Tryz.prog 71 2=some 2:=aQ
theorem PR:dF Tryz.prog 71 3=some 3:=aQ
theorem PS:dF Tryz.prog 71 4=some 4:=aQ
theorem KS:dF Tryz.prog 95 0=some 0:=aQ
theorem BI:dF Tryz.prog 95 1=some 1:=aQ
theorem D4:dF Tryz.prog 95 2=some 2:=aQ
theorem am_:dF Tryz.prog 95 3=some 3:=aQ
theorem PT:dF Tryz.prog 95 4=some 4:=aQ
theorem GB:dF Tryz.prog 95 5=some 5:=aQ
theorem GC:dF Tryz.prog 95 6=some 6:=aQ
theorem am':dF Tryz.prog 101 0=some 0:=aQ
theorem Z5:dF Tryz.prog 101 1=some 1:=aQ
theorem Z6:dF Tryz.prog 104 0=some 0:=aQ
theorem Z7:dF Tryz.prog 104 1=some 1:=aQ
theorem ana:dF Tryz.prog 133 0=some 0:=aQ
theorem GD:dF Tryz.prog 133 1=some 12:=aQ
theorem BJ:dF Tryz.prog 133 2=some 13:=aQ
theorem qR:dF Tryz.prog 133 3=some 14:=aQ
theorem BK:dF Tryz.prog 133 4=some 15:=aQ
theorem zV:dF Tryz.prog 133 5=some 16:=aQ
theorem D5:dF Tryz.prog 133 6=some 17:=aQ
theorem yv:dF Tryz.prog 140 0=some 0:=aQ
theorem anb:dF Tryz.prog 140 1=some 1:=aQ
theorem Z8:dF Tryz.prog 140 2=some 3:=aQ
theorem Z9:dF Tryz.prog 140 3=some 6:=aQ
theorem anc:dF Tryz.prog 140 4=some 17:=aQ
theorem PU:dF Tryz.prog 140 5=some 25:=aQ
theorem yw:dF Tryz.prog 149 0=some 0:=aQ
theorem GF:dF Tryz.prog 149 1=some 1:=aQ
theorem rz:dF Tryz.prog 151 0=some 0:=aQ
theorem ane:dF Tryz.prog 194 0=some 0:=aQ
theorem Z_:dF Tryz.prog 194 1=some 1:=aQ
theorem PV:dF Tryz.prog 194 2=some 2:=aQ
theorem anf:dF Tryz.prog 198 0=some 0:=aQ
theorem ang:dF Tryz.prog 198 1=some 1:=aQ
theorem anh:dF Tryz.prog 198 2=some 2:=aQ
theorem ani:dF Tryz.prog 200 0=some 0:=aQ
theorem anj:dF Tryz.prog 200 1=some 1:=aQ
theorem ank:dF Tryz.prog 247 0=some 0:=aQ
theorem PW:dF Tryz.prog 247 1=some 1:=aQ
theorem GG:dF Tryz.prog 247 2=some 2:=aQ
theorem anl:dF Tryz.prog 251 0=some 0:=aQ
theorem zW:dF Tryz.prog 251 1=some 1:=aQ
theorem qS:dF Tryz.prog 288 0=some 0:=aQ
theorem PX:dF Tryz.prog 290 0=some 0:=aQ
theorem BL:dF Tryz.prog 290 1=some 1:=aQ
theorem anm:ey Tryz.prog 33=some (true,2,24,[ad,aE []]):=aQ
theorem Z'(a b:bc)(w:World):(Op.equalIn 10000 35 (.agg #[U a.slot,U a.query,U a.shard,U a.seq,U a.fP,aE a.text,U a.k,U a.batch,.bool a.first,U a.after.ck,aE a.after.word]) (.agg #[U b.slot,U b.query,U b.shard,U b.seq,U b.fP,aE b.text,U b.k,U b.batch,.bool b.first,U b.after.ck,aE b.after.word])).run Tryz.prog w=.ok (decide (a=b)) w:=by
 obtain⟨a0,h9,a2,a3,a4,a5,DU,DV,GH,⟨a9,KT⟩⟩:=a;obtain⟨m',aK,aR,bz,bL,cE,de,gX,hJ,⟨jN,k3⟩⟩:=b;refine(al5 (P:=Tryz.prog) (t:=35) (t2:=33) (k:=9) (o:=9) (ks:=[(0,.int .i64),(1,.int .i64),(2,.int .i64),(3,.int .i64),(4,.int .i64),(5,.str),(6,.int .i64),(7,.int .i64),(8,.bool)]) (ks2:=[(0,.int .i64),(1,.str)]) (q:=(a0==m') && (h9==aK) && (a2==aR) && (a3==bz) && (a4==bL) && (a5==cE) && (DU==de) && (DV==gX) && (GH==hJ)) (q2:=(a9==jN) && (KT==k3)) (x2:=#[U a9,aE KT]) (y2:=#[U jN,aE k3]) cY cY cY cY cY cY cY anm ?_ rfl rfl ?_ w).trans ?_
 . skip
   by_cases bK:a0=m'
   case neg=>(have g0:=beq_eq_false_iff_ne.2 bK);simp[mo,nh,aE,toList_mk,bK,g0]
   subst bK;by_cases h1:h9=aK
   case neg=>(have g1:=beq_eq_false_iff_ne.2 h1);simp[mo,nh,aE,toList_mk,h1,g1]
   subst h1;by_cases ah:a2=aR
   case neg=>(have g2:=beq_eq_false_iff_ne.2 ah);simp[mo,nh,aE,toList_mk,ah,g2]
   subst ah;by_cases aB:a3=bz
   case neg=>(have g3:=beq_eq_false_iff_ne.2 aB);simp[mo,nh,aE,toList_mk,aB,g3]
   subst aB;by_cases bE:a4=bL
   case neg=>(have g4:=beq_eq_false_iff_ne.2 bE);simp[mo,nh,aE,toList_mk,bE,g4]
   subst bE;by_cases c6:a5=cE
   case neg=>(have g5:=beq_eq_false_iff_ne.2 c6);simp[mo,nh,aE,toList_mk,c6,g5]
   subst c6;by_cases eZ:DU=de
   case neg=>(have g6:=beq_eq_false_iff_ne.2 eZ);simp[mo,nh,aE,toList_mk,eZ,g6]
   subst eZ;by_cases kB:DV=gX
   case neg=>(have g7:=beq_eq_false_iff_ne.2 kB);simp[mo,nh,aE,toList_mk,kB,g7]
   subst kB;by_cases sn:GH=hJ
   case neg=>(have g8:=beq_eq_false_iff_ne.2 sn);simp[mo,nh,aE,toList_mk,sn,g8]
   subst sn;simp[mo,nh,aE,toList_mk]
 . skip
   by_cases uZ:a9=jN
   case neg=>(have g9:=beq_eq_false_iff_ne.2 uZ);simp[mo,nh,aE,toList_mk,uZ,g9]
   subst uZ;by_cases tU:KT=k3
   case neg=>(have g10:=beq_eq_false_iff_ne.2 tU);simp[mo,nh,aE,toList_mk,tU,g10]
   subst tU;simp[mo,nh,aE,toList_mk]
 . congr 1
   by_cases bK:a0=m'
   case neg=>(have g0:=beq_eq_false_iff_ne.2 bK);simp[bK,g0]
   subst bK;by_cases h1:h9=aK
   case neg=>(have g1:=beq_eq_false_iff_ne.2 h1);simp[h1,g1]
   subst h1;by_cases ah:a2=aR
   case neg=>(have g2:=beq_eq_false_iff_ne.2 ah);simp[ah,g2]
   subst ah;by_cases aB:a3=bz
   case neg=>(have g3:=beq_eq_false_iff_ne.2 aB);simp[aB,g3]
   subst aB;by_cases bE:a4=bL
   case neg=>(have g4:=beq_eq_false_iff_ne.2 bE);simp[bE,g4]
   subst bE;by_cases c6:a5=cE
   case neg=>(have g5:=beq_eq_false_iff_ne.2 c6);simp[c6,g5]
   subst c6;by_cases eZ:DU=de
   case neg=>(have g6:=beq_eq_false_iff_ne.2 eZ);simp[eZ,g6]
   subst eZ;by_cases kB:DV=gX
   case neg=>(have g7:=beq_eq_false_iff_ne.2 kB);simp[kB,g7]
   subst kB;by_cases sn:GH=hJ
   case neg=>(have g8:=beq_eq_false_iff_ne.2 sn);simp[sn,g8]
   subst sn;by_cases uZ:a9=jN
   case neg=>(have g9:=beq_eq_false_iff_ne.2 uZ);simp[uZ,g9]
   subst uZ;by_cases tU:KT=k3
   case neg=>(have g10:=beq_eq_false_iff_ne.2 tU);simp[tU,g10]
   subst tU;simp
theorem ann(a b:Gt)(w:World):(Op.equalIn 10000 38 (.agg #[U a.a,U a.b,U a.c]) (.agg #[U b.a,U b.b,U b.c])).run Tryz.prog w=.ok (decide (a=b)) w:=
 CB (ks:=[(0,.int .i64),(1,.int .i64),(2,.int .i64)]) cY cY cY (by
  obtain⟨a0,h9,a2⟩:=a
  obtain⟨m',aK,aR⟩:=b
  (by_cases bK:a0=m')<;>(first|(have g0:=beq_eq_false_iff_ne.2 bK)|(have g0:=beq_iff_eq.2 bK))<;>(by_cases h1:h9=aK)<;>(first|(have g1:=beq_eq_false_iff_ne.2 h1)|(have g1:=beq_iff_eq.2 h1))<;>(by_cases ah:a2=aR)<;>(first|(have g2:=beq_eq_false_iff_ne.2 ah)|(have g2:=beq_iff_eq.2 ah))<;>simp[mo,nh,aE,toList_mk,bK,h1,ah,g0,g1,g2]) w
theorem ano(a b:w8)(w:World):(Op.equalIn 10000 46 (.agg #[U a.a,U a.b]) (.agg #[U b.a,U b.b])).run Tryz.prog w=.ok (decide (a=b)) w:=
 CB (ks:=[(0,.int .i64),(1,.int .i64)]) cY cY cY (by
  obtain⟨a0,h9⟩:=a
  obtain⟨m',aK⟩:=b
  (by_cases bK:a0=m')<;>(first|(have g0:=beq_eq_false_iff_ne.2 bK)|(have g0:=beq_iff_eq.2 bK))<;>(by_cases h1:h9=aK)<;>(first|(have g1:=beq_eq_false_iff_ne.2 h1)|(have g1:=beq_iff_eq.2 h1))<;>simp[mo,nh,aE,toList_mk,bK,h1,g0,g1]) w
theorem anp(a b:w8)(w:World):(Op.equalIn 10000 104 (.agg #[U a.a,U a.b]) (.agg #[U b.a,U b.b])).run Tryz.prog w=.ok (decide (a=b)) w:=
 CB (ks:=[(0,.int .i64),(1,.int .i64)]) cY cY cY (by
  obtain⟨a0,h9⟩:=a
  obtain⟨m',aK⟩:=b
  (by_cases bK:a0=m')<;>(first|(have g0:=beq_eq_false_iff_ne.2 bK)|(have g0:=beq_iff_eq.2 bK))<;>(by_cases h1:h9=aK)<;>(first|(have g1:=beq_eq_false_iff_ne.2 h1)|(have g1:=beq_iff_eq.2 h1))<;>simp[mo,nh,aE,toList_mk,bK,h1,g0,g1]) w
theorem n3:vh (Tryz.prog.underlying 35)=true:=aQ
theorem qT:vh (Tryz.prog.underlying 38)=true:=aQ
theorem qU:vh (Tryz.prog.underlying 46)=true:=aQ
theorem xb:vh (Tryz.prog.underlying 49)=true:=aQ
theorem qs:vh (Tryz.prog.underlying 104)=true:=aQ
theorem D6:b7 Tryz.prog 11=true:=aQ
theorem aaa:b7 Tryz.prog 12=true:=aQ
theorem anq:b7 Tryz.prog 13=true:=aQ
theorem xc:b7 Tryz.prog 14=true:=aQ
theorem GI:b7 Tryz.prog 15=true:=aQ
theorem GJ:b7 Tryz.prog 16=true:=aQ
theorem anr:b7 Tryz.prog 17=true:=aQ
theorem GK:b7 Tryz.prog 18=true:=aQ
theorem ans:b7 Tryz.prog 19=true:=aQ
theorem PY:b7 Tryz.prog 20=true:=aQ
theorem PZ:b7 Tryz.prog 21=true:=aQ
theorem aab:b7 Tryz.prog 22=true:=aQ
theorem ant:b7 Tryz.prog 24=true:=aQ
theorem P0:b7 Tryz.prog 26=true:=aQ
theorem anu:b7 Tryz.prog 27=true:=aQ
theorem anv:b7 Tryz.prog 28=true:=aQ
theorem P1:b7 Tryz.prog 30=true:=aQ
theorem zX:b7 Tryz.prog 31=true:=aQ
theorem yx:b7 Tryz.prog 32=true:=aQ
theorem anw:b7 Tryz.prog 33=true:=aQ
theorem anx:b7 Tryz.prog 34=true:=aQ
theorem KU:b7 Tryz.prog 35=true:=aQ
theorem anz:b7 Tryz.prog 36=true:=aQ
theorem aac:b7 Tryz.prog 38=true:=aQ
theorem anA:b7 Tryz.prog 41=true:=aQ
theorem anB:b7 Tryz.prog 43=true:=aQ
theorem anC:b7 Tryz.prog 45=true:=aQ
theorem aad:b7 Tryz.prog 46=true:=aQ
theorem anD:b7 Tryz.prog 47=true:=aQ
theorem anE:b7 Tryz.prog 48=true:=aQ
theorem anF:b7 Tryz.prog 49=true:=aQ
theorem aae:b7 Tryz.prog 50=true:=aQ
theorem anG:b7 Tryz.prog 51=true:=aQ
theorem anH:b7 Tryz.prog 52=true:=aQ
theorem aaf:b7 Tryz.prog 53=true:=aQ
theorem anI:b7 Tryz.prog 62=true:=aQ
theorem anJ:b7 Tryz.prog 63=true:=aQ
theorem anK:b7 Tryz.prog 64=true:=aQ
theorem aag:b7 Tryz.prog 65=true:=aQ
theorem anL:b7 Tryz.prog 66=true:=aQ
theorem anM:b7 Tryz.prog 67=true:=aQ
theorem anN:b7 Tryz.prog 68=true:=aQ
theorem KV:b7 Tryz.prog 69=true:=aQ
theorem KW:b7 Tryz.prog 70=true:=aQ
theorem anO:b7 Tryz.prog 71=true:=aQ
theorem anP:b7 Tryz.prog 72=true:=aQ
theorem anQ:b7 Tryz.prog 73=true:=aQ
theorem anR:b7 Tryz.prog 74=true:=aQ
theorem anS:b7 Tryz.prog 75=true:=aQ
theorem aah:b7 Tryz.prog 76=true:=aQ
theorem anT:b7 Tryz.prog 83=true:=aQ
theorem KX:b7 Tryz.prog 88=true:=aQ
theorem anU:b7 Tryz.prog 89=true:=aQ
theorem anV:b7 Tryz.prog 92=true:=aQ
theorem anW:b7 Tryz.prog 93=true:=aQ
theorem anX:b7 Tryz.prog 94=true:=aQ
theorem anY:b7 Tryz.prog 95=true:=aQ
theorem anZ:b7 Tryz.prog 109=true:=aQ
theorem aai:b7 Tryz.prog 110=true:=aQ
theorem aaj:b7 Tryz.prog 111=true:=aQ
theorem an0:b7 Tryz.prog 112=true:=aQ
theorem an1:b7 Tryz.prog 113=true:=aQ
theorem an2:b7 Tryz.prog 114=true:=aQ
theorem an3:b7 Tryz.prog 115=true:=aQ
theorem an4:b7 Tryz.prog 116=true:=aQ
theorem an5:b7 Tryz.prog 117=true:=aQ
theorem an6:b7 Tryz.prog 118=true:=aQ
theorem an7:b7 Tryz.prog 119=true:=aQ
theorem an8:b7 Tryz.prog 120=true:=aQ
theorem an9:b7 Tryz.prog 121=true:=aQ
theorem P2:b7 Tryz.prog 122=true:=aQ
theorem an_:b7 Tryz.prog 123=true:=aQ
theorem KY:b7 Tryz.prog 131=true:=aQ
theorem an':b7 Tryz.prog 132=true:=aQ
theorem aoa:b7 Tryz.prog 151=true:=aQ
theorem aak:b7 Tryz.prog 152=true:=aQ
theorem aob:b7 Tryz.prog 153=true:=aQ
theorem xd:b7 Tryz.prog 154=true:=aQ
theorem aoc:b7 Tryz.prog 155=true:=aQ
theorem aal:b7 Tryz.prog 156=true:=aQ
theorem aod:b7 Tryz.prog 157=true:=aQ
theorem GL:b7 Tryz.prog 158=true:=aQ
theorem P3:b7 Tryz.prog 159=true:=aQ
theorem aam:b7 Tryz.prog 160=true:=aQ
theorem aoe:b7 Tryz.prog 161=true:=aQ
theorem aan:b7 Tryz.prog 162=true:=aQ
theorem aof:b7 Tryz.prog 163=true:=aQ
theorem GM:b7 Tryz.prog 164=true:=aQ
theorem aog:b7 Tryz.prog 165=true:=aQ
theorem D7:b7 Tryz.prog 168=true:=aQ
theorem aao:b7 Tryz.prog 169=true:=aQ
theorem P4:b7 Tryz.prog 184=true:=aQ
theorem aoh:b7 Tryz.prog 185=true:=aQ
theorem aoi:b7 Tryz.prog 186=true:=aQ
theorem aap:b7 Tryz.prog 187=true:=aQ
theorem aaq:b7 Tryz.prog 188=true:=aQ
theorem aoj:b7 Tryz.prog 189=true:=aQ
theorem aok:b7 Tryz.prog 190=true:=aQ
theorem GN:b7 Tryz.prog 193=true:=aQ
theorem P5:b7 Tryz.prog 200=true:=aQ
theorem xe:b7 Tryz.prog 201=true:=aQ
theorem aol:b7 Tryz.prog 202=true:=aQ
theorem aom:b7 Tryz.prog 203=true:=aQ
theorem aon:b7 Tryz.prog 204=true:=aQ
theorem aoo:b7 Tryz.prog 206=true:=aQ
theorem aar:b7 Tryz.prog 207=true:=aQ
theorem aop:b7 Tryz.prog 211=true:=aQ
theorem aas:b7 Tryz.prog 212=true:=aQ
theorem aoq:b7 Tryz.prog 213=true:=aQ
theorem P6:b7 Tryz.prog 215=true:=aQ
theorem aat:b7 Tryz.prog 220=true:=aQ
theorem aor:b7 Tryz.prog 223=true:=aQ
end Go.Proofs
namespace Go.Proofs
open Tryz
open Go.aH Go.ak
theorem aau{w0:World}{F:Nat->Prop}{c_ dh:Nat}{wid GO:Int}{GP:Bool}{o3 X Y:Value}{ks:List Int}{life:Int}{K:List cX}(bf:(bk (R:=az) [ax c_ [U wid,U GO,.bool GP,o3,ptr dh 0,X,Y] 95,aS aH.encI 3 1 o3 ks,hQ 164 123 5 dh life K]).p F w0)(bs:∀b,F b->b<w0.heap.size)(Yi:0<=life/\life<=1000000)(eR:pe K)(k':ks.Nodup)(n9:∀k∈ks,bY k)(mO:ks.length<=1000):
 bI 46 #[ptr c_ 0] w0 (al λaC ai=>aC=.tuple #[]/\Mod F w0 ai/\∃bu,(iK (R:=az) 3 95 164 123 5 176 172 c_ wid ks (⟨0,true,life+1,K,K,[]⟩)).p bu ai/\∀b,bu b->b<ai.heap.size/\(F b\/w0.heap.size<=b)):=by
 have dO:=au.hr (R:=az) bf (λb ab=>⟨bs b ab,id⟩) (λ_ h=>h.elim);have bw:=(dO.u 0 []).cx;refine bR func46 rfl ntmps46 rfl (.go 4 rfl (have f1:=bw.k 0;.a6 PT PO f1 ?_));obtain⟨h4,dx,ds,dd⟩:=bw.ec 2;refine .ac (.aF anV rfl (aj6 (w0:=w0) aa dx (λb ab=>(ds b ab).2)) ?_);rintro _ ai ⟨rfl,av,fq,fc,d_⟩;have a7:=(dd _ _ _ av fc d_).cx;clear dd fc;refine .go 6 rfl (.ac (.aF anW rfl (alg (w0:=ai)) ?_));rintro _ a1 ⟨dT,bu,rfl,aA,gm,gh⟩;have aZ:au az F w0 a1 [ax c_ [U wid,U GO,.bool GP,o3,ptr dh 0,X,Y] 95,aS aH.encI 3 1 o3 ks,hQ 164 123 5 dh (life+1) K,j2 176 172 dT []]:=a7.new aA gm (λb ab=>⟨(gh b ab).2,(gh b ab).1⟩);refine .go 1 rfl (.z (.fieldAddr D4 rfl) (have f2:=aZ.k 0;.ac (.st fh f2 λbp aP aW=>?_)));have bb:=(aZ.c8 0 aP aW.xY).bU;refine .go 1 rfl (.z (.fieldAddr BI rfl) (have f3:=bb.k 0;.ac (.st aJ f3 λbW aY bQ=>?_)));have a_:=(bb.c8 0 aY bQ.xY).bU;refine .go 1 rfl (.z (.fieldAddr GC rfl) (have f4:=a_.k 0;.ac (.st vr f4 λcF bt cN=>?_)));have bl:=(a_.c8 0 bt cN.xY).bU;refine .go 4 rfl (.ac (.Xj (key:=fC) (val:=mi) λc9 aK b9 aG g' c'=>have bD:=(bl.Xk b9 aG c').cQ;have bH:au az F w0 c9 [ax c_ [U wid,ad,.bool true,o3,ptr dh 0,X,ptr dT 0] 95,aS aH.encI 3 1 o3 ks,hQ 164 123 5 dh (life+1) K,j2 176 172 dT [],jl fC mi aK [],lZ [] []]:=bD.new (Mod.refl _ _) (F:=λ_=>False) (A:=lZ [] []) (cZ.nil) (λ_ h=>h.elim);.go 1 rfl (.z (.fieldAddr GB rfl) (have f5:=bH.k 0;.ac (.st Gy f5 λdC cH eW=>?_)))));have br:=(bH.c8 0 cH eW.xY).n6;refine .go 5 rfl (have f6:=br.k 0;.a6 am_ pO f6 ?_);obtain⟨g1,f7,cz,bC⟩:=br.b4 1;refine .z (.ct underlying57 (f7.ch) rfl) (have b8:=(br.dy [1,4,0,5,2,3]).n6;.ae 3 rfl (dW (I:=λm E W=>∃(i:Nat) (vs:List Value),E=[(0,ptr c_ 0),(30,o3),(31,U (ks.length:Int)),(32,U (i:Int))]/\m=ks.length-i/\au az F w0 W [aS aH.encI 3 1 o3 ks,jl fC mi aK (lp (ks.take i) vs K),ax c_ [U wid,ad,.bool true,o3,ptr dh 0,.map (some aK),ptr dT 0] 95,lZ vs ((ks.take i).map (gn K)),hQ 164 123 5 dh (life+1) K,j2 176 172 dT []]/\(vs.length=i)/\(i<=ks.length)) ?_ ?_))
 . refine⟨_,_,⟨(0:Nat),([]:List Value),rfl,rfl,b8,dw,aa⟩,bm⟩
 . rintro _ _ eQ ⟨i,vs,rfl,rfl,bP,BM,nb⟩ b5;refine .go 2 rfl (.bg (.lt rfl rfl) (λaL=>?_) λaL=>?_)
   . refine .ae 2 rfl ?_;obtain⟨g2,f8,dr,cy⟩:=bP.b4 0;obtain⟨ay,bz,fb,ba,bV,e_,cL⟩:=aq.fG f8.ch underlying57 aJ aH.gH i aV;refine .go 6 rfl (.z (.indexAddr rfl rfl bV) (.z (.dN aJ cL) (have OK:=n9 _ (List.mem_of_getElem? ba);.go 6 rfl (have f9:=bP.k 2;.a6 PT PO f9 ?_))));obtain⟨qL,jj,hz,hV⟩:=bP.ec 4;refine .go 1 rfl (.ac (.aF anX rfl (ajZ (w0:=eQ) (ay) zY jj (λb ab=>(hz b ab).2) eR) ?_));rintro _ fl ⟨v1,rfl,⟨g3,cc,b6⟩,dj⟩;have cp:=(bP.fz dj cc b6).n7;clear b6;obtain⟨g4,f10,gE,dE⟩:=cp.b4 6;refine .go 9 rfl (.ac (.aF anY rfl (ak9 (w0:=fl) (b:=(iR K ay)) (f10.ch.cB (Nat.zero_le _) f10.lt) (Zb eR _)) ?_));rintro _ fs ⟨FX,_,rfl,⟨OH,ye,pP,Dx,Dy⟩,rfl,dp⟩;obtain⟨D8,rfl,atC⟩:=pP.PC;have df:au az F w0 fs [aS aH.encI 3 1 o3 ks,jl fC mi aK (lp (ks.take i) vs K),ax c_ [U wid,ad,.bool true,o3,ptr dh 0,.map (some aK),ptr dT 0] 95,lZ vs ((ks.take i).map (gn K)),hQ 164 123 5 dh (life+1) K,j2 176 172 dT [],aS eA 5 1 v1 (iR K ay),wz (.pointer D8) (gn K ay)]:=cp.MN dp pP Dx Dy;refine .go 9 rfl (have f11:=df.k 2;.a6 GB Gy f11 (.go 3 rfl (.z (.build (vs:=#[(0,(.pointer D8)),(1,(U (kL K ay):Value))]) (v:=.agg #[(.pointer D8),U (kL K ay)]) rfl (λ_=>by kernel_rfl)) (have f12:=df.mp (i:=1) rfl;.ac (.aiB (ay:Int) (((.pointer D8),kL K ay):Value×Int) (aiy underlying3) underlying92 rfl rfl rfl f12 λhy dM kd gA=>?_)))));rw[al6 BM ba k'] at gA;have dS:=(df.C' (i:=1) rfl dM gA).n8;have eu:=(dS.aR [0,1,2,4,5,6] 3 7).n7;have ff:=(eu.ty (lZ (vs++[(.pointer D8)]) ((ks.take (i+1)).map (gn K))) 6 rfl (λdV bG=>(by rw[List.take_add_one,ba,List.map_append];exact amj bG))).n7;exact .go 3 rfl (.z (.cd ((i+1:Nat):Int) rfl rfl aa) (have eo:=(ff.dy [0,1,2,6,3,4]).n6;.ae 2 rfl ((b5 _ _ _ ⟨(i+1:Nat),(vs++[(.pointer D8)]:List Value),rfl,rfl,eo,ap,e9⟩ aa).sub bm)))
   exact .ae 4 rfl (kN func46 rfl (have wS:ks.take i=ks:=List.take_of_length_le aa;have bT:=(bP.ty (lZ vs (ks.map (gn K))) 3 rfl (λdV bG=>(by rw[wS] at bG;exact bG))).n6;have cp:=(bT.ty (jl fC mi aK (lp ks vs K)) 1 rfl (λdV bG=>(by rw[wS] at bG;exact bG))).n6;have cT:=(cp.de [] 2 0 4 1 3 5).cf;have df:=(cT.mD (s:=⟨0,true,life+1,K,K,[]⟩) 0 rfl).cf;df.rt 0 rfl rfl))
theorem yy{w0:World}{c_:Nat}{fo c1 hE DW w9 w_:Value}{up:Bool}(ab:dv w0 c_ [fo,c1,.bool up,hE,DW,w9,w_] 95):
 bI 32 #[ptr c_ 0] w0 (al λaC ai=>aC=.bool up/\Ext w0 ai):=by
 have cW:=au.fZ w0;exact bR func32 rfl ntmps32 rfl (.go 7 rfl (.z (.EU underlying27 rfl rfl) (.go 3 rfl (.z (.fieldAddr D4 rfl) (have bV:=ab.row.sub 2 1 dn;.z (.dN fh bV) (.ae 3 rfl (ob func32 ⟨rfl,cW.mod⟩)))))))
theorem P7{w0:World}{c_ dh:Nat}{fo c1 c2 hE w9 w_:Value}(ab:dv w0 c_ [fo,c1,c2,hE,ptr dh 0,w9,w_] 95):
 bI 26 #[ptr c_ 0] w0 (al λaC ai=>aC=ptr dh 0/\Ext w0 ai):=by
 have cW:=au.fZ w0;exact bR func26 rfl ntmps26 rfl (.go 8 rfl (.z (.og underlying27 rfl rfl) (.go 7 rfl (.z (.fieldAddr PT rfl) (have bV:=ab.row.sub 4 1 dn;.z (.dN PO bV) (.ae 2 rfl (ob func26 ⟨rfl,cW.mod⟩)))))))
theorem P8{w0:World}{F:Nat->Prop}{c_ dh:Nat}{fo c1 c2 hE w9 w_:Value}{life:Int}{K:List cX}(ab:dv w0 c_ [fo,c1,c2,hE,ptr dh 0,w9,w_] 95)(hd:(hQ (R:=az) 164 123 5 dh life K).p F w0):
 bI 21 #[ptr c_ 0] w0 (al λaC ai=>aC=U life/\Ext w0 ai):=by
 have cW:=au.fZ w0;refine bR func21 rfl ntmps21 rfl (.go 7 rfl (.ac (.aF P0 rfl (P7 (w0:=w0) (ab.ext cW.mod)) ?_)));rintro _ ai ⟨rfl,av⟩;have bw:=cW.ext av;refine .ac (.aF anH rfl (aj1 (w0:=ai) ((hQ (R:=az) 164 123 5 dh life K).keep hd bw.mod (λ_ _ h=>h) (λ_ h=>h.elim))) ?_);rintro _ a1 ⟨rfl,aA⟩;have a7:=bw.ext aA;exact .ae 2 rfl (ob func21 ⟨rfl,a7.mod⟩)
theorem P9{w0:World}{c_:Nat}{fo hE DW w9 w_:Value}{ep:Int}{up:Bool}(ab:dv w0 c_ [fo,U ep,.bool up,hE,DW,w9,w_] 95):
 bI 20 #[ptr c_ 0] w0 (al λaC ai=>aC=U (if up=true then ep else 0)/\Ext w0 ai):=by
 have cW:=au.fZ w0;refine bR func20 rfl ntmps20 rfl (.go 8 rfl (.ac (.aF yx rfl (yy (w0:=w0) (ab.ext cW.mod)) ?_)));rintro _ ai ⟨rfl,av⟩;have bw:=cW.ext av;cases up
 case true =>
  exact .z (.not rfl) (.go 7 rfl (.z (.fieldAddr BI rfl) (have f1:=ab.row.keep bw.mod (λh=>h);have bV:=f1.sub 1 1 dn;.z (.dN aJ bV) (.ae 2 rfl (ob func20 ⟨rfl,bw.mod⟩)))))
 exact .z (.not rfl) (.ae 6 rfl (ob func20 ⟨rfl,bw.mod⟩))
theorem GQ{w0:World}{F:Nat->Prop}{c_:Nat}{wid:Int}{ks:List Int}{ep life:Int}{up:Bool}{K B:List cX}{q:List bc}(bf:(iK (R:=az) 3 95 164 123 5 176 172 c_ wid ks (⟨ep,up,life,K,B,q⟩)).p F w0)(bs:∀b,F b->b<w0.heap.size):
 bI 18 #[ptr c_ 0] w0 (al λaC ai=>aC=U (if up=true then 0 else 10)/\Mod F w0 ai/\∃bu,(iK (R:=az) 3 95 164 123 5 176 172 c_ wid ks (⟨ep,false,life,K,B,q⟩)).p bu ai/\∀b,bu b->b<ai.heap.size/\(F b\/w0.heap.size<=b)):=by
 have dO:=au.hr (R:=az) bf (λb ab=>⟨bs b ab,id⟩) (λ_ h=>h.elim);obtain⟨⟨kg,dJ,gL,j6,dT⟩,bw⟩:=dO.fM 0;change au az F w0 w0 [bk [ax c_ [U wid,U ep,.bool up,kg,ptr dJ 0,.map (some gL),ptr dT 0] 95,aS aH.encI 3 1 kg ks,hQ 164 123 5 dJ life K,jl fC mi gL (lp ks j6 B),lZ j6 (ks.map (gn B)),j2 176 172 dT q]] at bw;have a7:=(bw.u 0 []).n6;refine bR func18 rfl ntmps18 rfl (.go 9 rfl (.z (.og underlying27 rfl rfl) (.go 7 rfl (have f1:=a7.k 0;.a6 D4 fh f1 ?_))));cases up
 case true =>
  refine .z (.not rfl) (.go 9 rfl (.z (.fieldAddr D4 rfl) (.ac (.st fh f1 λai av aW=>?_))));have bd:=(a7.c8 0 av aW.xY).n6;exact .ae 5 rfl (aM func18 rfl rfl (have aZ:=(bd.de [] 0 1 2 3 4 5).cf;have bb:=(aZ.mD (s:=⟨ep,false,life,K,B,q⟩) 0 rfl).cf;bb.rt 0 rfl rfl))
 exact .z (.not rfl) (.ae 7 rfl (aM func18 rfl rfl (have bd:=(a7.de [] 0 1 2 3 4 5).cf;have aZ:=(bd.mD (s:=⟨ep,false,life,K,B,q⟩) 0 rfl).cf;aZ.rt 0 rfl rfl)))
theorem aos{w0:World}{F:Nat->Prop}{c_:Nat}{wid:Int}{ks:List Int}{ep life:Int}{up:Bool}{K B:List cX}{q:List bc}{n:Nat}(bf:(iK (R:=az) 3 95 164 123 5 176 172 c_ wid ks (⟨ep,up,life,K,B,q⟩)).p F w0)(bs:∀b,F b->b<w0.heap.size)(k':w7 ks)(bX:ha ks n (⟨ep,up,life,K,B,q⟩:d'))(aN:n<=1000000):
 bI 19 #[ptr c_ 0] w0 (al λaC ai=>aC=U (if up=true then 5 else 0)/\Mod F w0 ai/\∃bu,(iK (R:=az) 3 95 164 123 5 176 172 c_ wid ks (if up=true then⟨ep,up,life,K,B,q⟩ else DS ⟨ep,up,life,K,B,q⟩)).p bu ai/\∀b,bu b->b<ai.heap.size/\(F b\/w0.heap.size<=b)):=by
 have kW:=bX.nA;have ih:=bX.life;have k9:=bX.ep;dsimp only at kW ih k9;have dO:=au.hr (R:=az) bf (λb ab=>⟨bs b ab,id⟩) (λ_ h=>h.elim);obtain⟨⟨kg,dJ,gL,j6,dT⟩,bw⟩:=dO.fM 0;change au az F w0 w0 [bk [ax c_ [U wid,U ep,.bool up,kg,ptr dJ 0,.map (some gL),ptr dT 0] 95,aS aH.encI 3 1 kg ks,hQ 164 123 5 dJ life K,jl fC mi gL (lp ks j6 B),lZ j6 (ks.map (gn B)),j2 176 172 dT q]] at bw;have a7:=(bw.u 0 []).n6;refine bR func19 rfl ntmps19 rfl (.go 9 rfl (.z (.og underlying27 rfl rfl) (.go 7 rfl (have f1:=a7.k 0;.a6 D4 fh f1 (.ae 2 rfl ?_)))));cases up
 case true =>
  exact .ae 5 rfl (aM func19 rfl rfl (have bd:=(a7.de [] 0 1 2 3 4 5).cf;have aZ:=(bd.mD (s:=⟨ep,true,life,K,B,q⟩) 0 rfl).cf;aZ.rt 0 rfl rfl))
 have bd:=(a7.bz [3,4,5] 0 1 2).bU;obtain⟨h4,dx,ds,dd⟩:=bd.ec 3;refine .go 6 rfl (.ac (.aF aad rfl (aau (w0:=w0) dx (λb ab=>(ds b ab).2) aa bX.K k'.vl k'.i64 k'.len) ?_));rintro _ ai ⟨rfl,av,fq,fc,d_⟩;have aZ:=(dd _ _ _ av fc d_).bU;clear dx dd fc d_;exact .ae 5 rfl (aM func19 rfl rfl (aZ.rt 3 rfl rfl))
theorem aot{w0:World}{F:Nat->Prop}{c_:Nat}{wid:Int}{ks:List Int}{ep life:Int}{up:Bool}{K B:List cX}{q:List bc}{n:Nat}(k:Int)(bf:(iK (R:=az) 3 95 164 123 5 176 172 c_ wid ks (⟨ep,up,life,K,B,q⟩)).p F w0)(bs:∀b,F b->b<w0.heap.size)(k':w7 ks)(bX:ha ks n (⟨ep,up,life,K,B,q⟩:d'))(aN:n<=1000000)(hk:bY k):
 bI 28 #[ptr c_ 0,U k] w0 (al λaC ai=>∃v,aC=.tuple #[v,U (nz ks ⟨ep,up,life,K,B,q⟩ k).2]/\(∃g,Acc cC 9 1 ai g v (nz ks ⟨ep,up,life,K,B,q⟩ k).1/\(g=0\/w0.heap.size<g))/\Ext w0 ai):=by
 have cW:=au.fZ w0;obtain⟨o3,dh,iS,vs,dc,ab,⟨Fd,hd,sg⟩,tt,⟨aou,uz,nX⟩,aov,dH,nx⟩:=zP bf;have BM:vs.length=ks.length:=(PE uz).trans (List.length_map ..);dsimp only at ab hd tt uz dH;refine bR func28 rfl ntmps28 rfl (.go 10 rfl (.z (.og underlying27 rfl rfl) ?_));refine .go 7 rfl (.z (.fieldAddr D4 rfl) (have bV:=ab.row.sub 2 1 dn;.z (.dN fh bV) ?_));cases up
 case true =>
  refine .z (.not rfl) (.go 9 rfl (.z (.fieldAddr GB rfl) ?_));have c3:=ab.row.sub 5 1 dn;refine .z (.dN Gy c3) (.go 1 rfl ?_);rcases Pp (B:=B) BM k with ⟨KZ,pr⟩|⟨j,oM,BN,BO,pr⟩
  . skip
    refine .z (.Un (key:=fC) (val:=mi) (u4 underlying3) underlying92 zeroValue101 rfl rfl (λ_ e=>e▸(tt.keep cW.mod (λh=>h)).o) pr) ?_;refine .go 3 rfl (.ac (.alloc KO λai aK av aG cr aW=>have a7:=(cW.cR av aG aW).cf;have f1:=a7.k 0;.ac (.store KO rfl rfl rfl rfl rfl f1 dn λa1 aA eg bQ=>?_)));have bd:=(a7.c8 0 aA bQ.c2).cf;refine .go 7 rfl (.z (.not rfl) (.ae 8 rfl ?_));exact cJ func28 rfl rfl rfl (have qV:nz ks ⟨ep,_,life,K,B,q⟩ k=([],4):=Ps KZ;al.mk ⟨_,(by rw[qV]),⟨0,Acc.cast Acc.nil (by rw[qV]),.inl rfl⟩,bd.mod⟩)
  . skip
    have BP:(ks.map (gn B))[j]?=some (gn B k):=(by rw[List.getElem?_map,BN];rfl);obtain⟨_,_,GR,_⟩:=Zp uz BO BP;obtain⟨aav,rfl,_⟩:=GR.PC;have K0:=List.mem_of_getElem? BN;refine .z (.Um (key:=fC) (val:=mi) (u4 underlying3) underlying92 zeroValue101 rfl rfl (λ_ e=>e▸(tt.keep cW.mod (λh=>h)).o) pr) ?_;refine .go 3 rfl (.ac (.alloc KO λai aK av aG cr aW=>have a7:=(cW.cR av aG aW).cf;have f1:=a7.k 0;.ac (.st KO f1 λa1 aA bQ=>?_)));have bd:=(a7.c8 0 aA bQ.c2).cf;refine .go 7 rfl (.z (.not rfl) (.go 5 rfl ?_));have f2:=bd.k 0;refine .a6 Z5 ZU f2 (.lO (.ne rfl rfl) (λaL=>?_) λaL=>?_)
    . refine .ae 4 rfl (eV (λi=>false) 4 (λan=>Mod (b_ 0) a1 an) mixed λbp aP=>have aZ:=bd.ext aP;have jy:Mod (b_ 0) a1 bp:=Mod.gj aP;⟨jy,?_⟩);refine .z rfl (.fieldAddr Z5 rfl) (.z rfl (.cg ZU rfl (λ_ ao=>(f2.cell 1 _ rfl).bF ao (Nat.succ_ne_zero _))) (.gd 2 rfl ?_));exact .nil (cJ func28 rfl rfl rfl (have qV:nz ks ⟨ep,_,life,K,B,q⟩ k=([],(kL B k)):=Pt K0 bh;al.mk ⟨_,(by rw[qV]),⟨0,Acc.cast Acc.nil (by rw[qV]),.inl rfl⟩,aZ.mod⟩))
    refine .go 7 rfl (.a6 am' ri f2 ?_);obtain⟨_,_,pP,P_⟩:=Zp ((lZ (R:=az) vs (ks.map (gn B))).keep uz bd.mod (λ_ _ h=>h) (λ_ h=>h.elim)) BO BP;refine .ac (.aF anI rfl (ale (w0:=a1) pP P_ (Zf (KD.2 bh)) (Nat.le_trans (bX.c_ k) b2)) ?_);rintro v1 bp ⟨⟨ic,cc,b6⟩,aP⟩;have bb:=(bd.fz aP cc b6).bO;clear b6;refine .ae 3 rfl (cJ func28 rfl rfl rfl ?_);have qV:nz ks ⟨ep,_,life,K,B,q⟩ k=(hn B k,0):=KE K0 bh;obtain⟨ek,vv,vw⟩:=bb.tf (i:=1) rfl;exact al.mk ⟨_,(by rw[qV]),⟨ek,Acc.cast vv (by rw[qV]),vw⟩,bb.mod⟩
 refine .z (.not rfl) (.ae 8 rfl (cJ func28 rfl rfl rfl ?_));have qV:nz ks ⟨ep,_,life,K,B,q⟩ k=([],10):=amb;exact al.mk ⟨_,(by rw[qV]),⟨0,Acc.cast Acc.nil (by rw[qV]),.inl rfl⟩,cW.mod⟩
theorem GS{w0:World}{F:Nat->Prop}{c_:Nat}{wid:Int}{ks:List Int}{ep life:Int}{up:Bool}{K B:List cX}{q:List bc}{n:Nat}(bf:(iK (R:=az) 3 95 164 123 5 176 172 c_ wid ks (⟨ep,up,life,K,B,q⟩)).p F w0)(bs:∀b,F b->b<w0.heap.size)(k':w7 ks)(bX:ha ks n (⟨ep,up,life,K,B,q⟩:d'))(aN:n<=100000):
 bI 15 #[ptr c_ 0] w0 (al λaC ai=>(∃g,Acc eC 35 11 ai g aC (yo ⟨ep,up,life,K,B,q⟩)/\(g=0\/w0.heap.size<g))/\Ext w0 ai):=by
 have cW:=au.fZ w0;obtain⟨o3,dh,iS,vs,dc,ab,⟨Fd,hd,sg⟩,tt,⟨aou,uz,nX⟩,aov,dH,nx⟩:=zP bf;dsimp only at ab hd tt uz dH;refine bR func15 rfl ntmps15 rfl (.go 8 rfl (.ac (.aF yx rfl (yy (w0:=w0) (ab.ext cW.mod)) ?_)));rintro _ ai ⟨rfl,av⟩;have bw:=cW.ext av;cases up
 case true =>
  refine .z (.not rfl) (.go 7 rfl (.z (.fieldAddr GC rfl) (have f1:=ab.row.keep bw.mod (λh=>h);have bV:=f1.sub 6 1 dn;.z (.dN vr bV) (.ac (.aF anF rfl (alk (w0:=ai) ((j2 (R:=az) 176 172 dc q).keep dH bw.mod (λ_ _ h=>h) (λ_ h=>h.elim)) (λb ab=>Nat.lt_of_lt_of_le (bs b (nx b ab)) bw.mod.size) (Nat.le_trans bX.nA aN)) ?_)))));rintro v1 a1 ⟨⟨ic,cc,b6⟩,aA⟩;have bd:=(bw.fz aA cc b6).cf;clear b6;refine .ae 2 rfl (aM func15 rfl rfl ?_);obtain⟨ek,vv,vw⟩:=bd.tf (i:=0) rfl;exact al.mk ⟨⟨ek,vv,vw⟩,bd.mod⟩
 exact .z (.not rfl) (.ae 6 rfl (ob func15 ⟨⟨0,Acc.nil,.inl rfl⟩,bw.mod⟩))
end Go.Proofs
namespace Go.Proofs
open Tryz
open Go.aH Go.ak
theorem aow{w0:World}{m:bc}(hm:m.Ok)(Gd:m.text.length<=1000000)(w4:m.after.word.length<=1000000):
 bI 41 #[.iface 35 (.agg #[U m.slot,U m.query,U m.shard,U m.seq,U m.fP,aE m.text,U m.k,U m.batch,.bool m.first,U m.after.ck,aE m.after.word])] w0 (al λaC ai=>(∃cu:Bool,cu=nS m/\aC=.bool cu)/\Ext w0 ai):=by
 have cW:=au.fZ w0;refine bR func41 rfl ntmps41 rfl ?_;refine .go 12 rfl ?_;refine .z (.ir qU rfl b2 zeroValue46) ?_;refine .go 6 rfl ?_;refine .z (.ir qT rfl b2 zeroValue38) ?_;refine .go 6 rfl ?_;refine .z (.pM n3 rfl) ?_;refine .go 6 rfl ?_;refine .ac (.alloc dZ λai aK av aG cr aW=>?_);have a7:=(cW.cR av aG aW).cf;have f1:=a7.k 0;refine .ac (.st dZ f1 λa1 aA bQ=>?_);have bd:=(a7.oJ (cs':=(eC m)) (i:=0) rfl aA bQ).cf;have f2:=bd.k 0;refine .go 3 rfl ?_;refine .z (.cq dZ rfl (λ_ e=>e▸f2.row) rfl) ?_;refine .ac (.aF anT rfl (alE (w0:=a1) (m:=m)  (by first|assumption|assumption) aV aV) ?_);rintro _ bp ⟨⟨aR,aL,rfl⟩,aP⟩;have aZ:=bd.ext aP;refine .ae 2 rfl ?_;exact aM func41 rfl rfl (al.mk ⟨⟨_,bh,rfl⟩,aZ.mod⟩)
theorem aox{w0:World}{F:Nat->Prop}{c_:Nat}{wid:Int}{ks:List Int}{ep life:Int}{up:Bool}{K B:List cX}{q:List bc}{n:Nat}{ek eU:Int}(bf:(iK (R:=az) 3 95 164 123 5 176 172 c_ wid ks (⟨ep,up,life,K,B,q⟩)).p F w0)(bs:∀b,F b->b<w0.heap.size)(k':w7 ks)(bX:ha ks n (⟨ep,up,life,K,B,q⟩:d'))(aN:n<=100000)(hm:bY ek/\bY eU):
 bI 14 #[ptr c_ 0,.iface 46 (.agg #[U ek,U eU])] w0 (al λaC ai=>aC=.tuple #[]/\Mod F w0 ai/\∃bu,(iK (R:=az) 3 95 164 123 5 176 172 c_ wid ks (j5 wid ks ⟨ep,up,life,K,B,q⟩ (.hB ek eU))).p bu ai/\∀b,bu b->b<ai.heap.size/\(F b\/w0.heap.size<=b)):=by
 have kW:=bX.nA;have ih:=bX.life;have k9:=bX.ep;dsimp only at kW ih k9;have dO:=au.hr (R:=az) bf (λb ab=>⟨bs b ab,id⟩) (λ_ h=>h.elim);obtain⟨⟨kg,dJ,gL,j6,dT⟩,bw⟩:=dO.fM 0;change au az F w0 w0 [bk [ax c_ [U wid,U ep,.bool up,kg,ptr dJ 0,.map (some gL),ptr dT 0] 95,aS aH.encI 3 1 kg ks,hQ 164 123 5 dJ life K,jl fC mi gL (lp ks j6 B),lZ j6 (ks.map (gn B)),j2 176 172 dT q]] at bw;have a7:=(bw.u 0 []).n6;refine bR func14 rfl ntmps14 rfl (have f1:=a7.k 0;.go 4 rfl (.ac (.aF yx rfl (yy (w0:=w0) f1) ?_)));rintro _ ai ⟨rfl,av⟩;have bd:=a7.ext av;cases up
 case true =>
  refine .z (.not rfl) (.go 7 rfl (.z (.ir qT rfl b2 zeroValue38) (.go 3 rfl (.ac (.alloc n2 λa1 aK aA aG cr aW=>have bb:=(bd.cR aA aG aW).n7;have f2:=bb.k 6;.ac (.st n2 f2 λbp aP bQ=>?_))))));have a_:=(bb.c8 6 aP bQ.hE).n7;refine .ae 3 rfl (eV (λi=>Nat.beq i 14) 26 (λan=>Mod (b_ 0) bp an) mixed λbW aY=>have bl:=a_.ext aY;have jo:Mod (b_ 0) bp bW:=Mod.gj aY;⟨jo,?_⟩);refine .gd 26 rfl (.nil (.go 6 rfl (.z (.ir n3 rfl b2 zeroValue35) (.go 3 rfl (.ac (.alloc dZ λcF aR bt aL fA cN=>have bD:=(bl.cR bt aL cN).n8;have f3:=bD.k 7;.ac (.st dZ f3 λc9 b9 c'=>?_)))))));have bH:=(bD.c8 7 b9 c'.vp).n8;refine .ae 3 rfl (eV (λi=>Nat.beq i 4) 31 (λan=>Mod (b_ 0) c9 an) mixed λdC cH=>have br:=bH.ext cH;have ll:Mod (b_ 0) c9 dC:=Mod.gj cH;⟨ll,?_⟩);refine .gd 31 rfl (.nil (.go 5 rfl (.z (.ir qs rfl b2 zeroValue104) (.go 3 rfl (.ac (.alloc kf λeQ bz dj aX gY eW=>have b8:=(br.cR dj aX eW).h3;have f4:=b8.k 8;.ac (.st kf f4 λfl dp gA=>?_)))))));have bT:=(b8.c8 8 dp gA.c2).h3;refine .ae 8 rfl (kN func14 rfl ?_);have cp:=(bT.de [6,7,8] 0 1 2 3 4 5).bU;have cT:=(cp.mD (s:=⟨ep,true,life,K,B,q⟩) 3 rfl).bU;rw[Zm];exact cT.rt 3 rfl rfl
 refine .z (.not rfl) (.ae 2 rfl (tG func14 rfl ?_));have aZ:=(bd.de [] 0 1 2 3 4 5).cf;have bb:=(aZ.mD (s:=⟨ep,false,life,K,B,q⟩) 0 rfl).cf;rw[zO];exact bb.rt 0 rfl rfl
theorem aoy{w0:World}{F:Nat->Prop}{c_:Nat}{wid:Int}{ks:List Int}{ep life:Int}{up:Bool}{K B:List cX}{q:List bc}{n:Nat}{ek eU:Int}(bf:(iK (R:=az) 3 95 164 123 5 176 172 c_ wid ks (⟨ep,up,life,K,B,q⟩)).p F w0)(bs:∀b,F b->b<w0.heap.size)(k':w7 ks)(bX:ha ks n (⟨ep,up,life,K,B,q⟩:d'))(aN:n<=100000)(hm:bY ek/\bY eU):
 bI 14 #[ptr c_ 0,.iface 104 (.agg #[U ek,U eU])] w0 (al λaC ai=>aC=.tuple #[]/\Mod F w0 ai/\∃bu,(iK (R:=az) 3 95 164 123 5 176 172 c_ wid ks (j5 wid ks ⟨ep,up,life,K,B,q⟩ (.stop ek eU))).p bu ai/\∀b,bu b->b<ai.heap.size/\(F b\/w0.heap.size<=b)):=by
 have kW:=bX.nA;have ih:=bX.life;have k9:=bX.ep;dsimp only at kW ih k9;obtain⟨w4,BQ⟩:=hm;have dO:=au.hr (R:=az) bf (λb ab=>⟨bs b ab,id⟩) (λ_ h=>h.elim);obtain⟨⟨kg,dJ,gL,j6,dT⟩,bw⟩:=dO.fM 0;change au az F w0 w0 [bk [ax c_ [U wid,U ep,.bool up,kg,ptr dJ 0,.map (some gL),ptr dT 0] 95,aS aH.encI 3 1 kg ks,hQ 164 123 5 dJ life K,jl fC mi gL (lp ks j6 B),lZ j6 (ks.map (gn B)),j2 176 172 dT q]] at bw;have a7:=(bw.u 0 []).n6;refine bR func14 rfl ntmps14 rfl (have f1:=a7.k 0;.go 4 rfl (.ac (.aF yx rfl (yy (w0:=w0) f1) ?_)));rintro _ ai ⟨rfl,av⟩;have bd:=a7.ext av;cases up
 case true =>
  refine .z (.not rfl) (.go 7 rfl (.z (.ir qT rfl b2 zeroValue38) (.go 3 rfl (.ac (.alloc n2 λa1 aK aA aG cr aW=>have bb:=(bd.cR aA aG aW).n7;have f2:=bb.k 6;.ac (.st n2 f2 λbp aP bQ=>?_))))));have a_:=(bb.c8 6 aP bQ.hE).n7;refine .ae 3 rfl (eV (λi=>Nat.beq i 14) 26 (λan=>Mod (b_ 0) bp an) mixed λbW aY=>have bl:=a_.ext aY;have jo:Mod (b_ 0) bp bW:=Mod.gj aY;⟨jo,?_⟩);refine .gd 26 rfl (.nil (.go 6 rfl (.z (.ir n3 rfl b2 zeroValue35) (.go 3 rfl (.ac (.alloc dZ λcF aR bt aL fA cN=>have bD:=(bl.cR bt aL cN).n8;have f3:=bD.k 7;.ac (.st dZ f3 λc9 b9 c'=>?_)))))));have bH:=(bD.c8 7 b9 c'.vp).n8;refine .ae 3 rfl (eV (λi=>Nat.beq i 4) 31 (λan=>Mod (b_ 0) c9 an) mixed λdC cH=>have br:=bH.ext cH;have ll:Mod (b_ 0) c9 dC:=Mod.gj cH;⟨ll,?_⟩);refine .gd 31 rfl (.nil (.go 5 rfl (.z (.pM qs rfl) (.go 3 rfl (.ac (.alloc kf λeQ bz dj aX gY eW=>have b8:=(br.cR dj aX eW).h3;have f4:=b8.k 8;.ac (.st kf f4 λfl dp gA=>?_)))))));have bT:=(b8.c8 8 dp gA.c2).h3;refine .ae 7 rfl (eV (λi=>Nat.beq i 8) 9 (λan=>dv an c_ [U wid,U ep,.bool true,kg,ptr dJ 0,.map (some gL),ptr dT 0] 95/\dv an bz [U ek,U eU] 104) mixed λfs dM=>have cp:=bT.ext dM;have f5:=cp.k 0;have f6:=cp.k 8;⟨⟨f5,f6⟩,?_⟩);refine .gd 2 rfl (.z rfl (.fieldAddr GC rfl) (.z rfl (.cg vr rfl (λ_ ao=>(ao.1.cell 6 _ rfl))) (.z rfl (.fieldAddr Z6 rfl) (.z rfl (.cg aJ rfl (λ_ ao=>(ao.2.cell 0 _ rfl))) (.z rfl (.fieldAddr Z7 rfl) (.z rfl (.cg aJ rfl (λ_ ao=>(ao.2.cell 1 _ rfl))) ?_))))));obtain⟨h4,dx,ds,dd⟩:=cp.ec 5;refine .ac rfl (.aF anE rfl (alB (w0:=fs) ek eU dx (λb ab=>(ds b ab).2) aa) ?_);rintro _ hy ⟨rfl,eT,fq,fc,d_⟩;have cT:=(dd _ _ _ eT fc d_).h3;clear dd fc;have f9:=cT.k 0;have f10:=cT.k 8;refine⟨.inr ⟨f9,f10⟩,.nil (kN func14 rfl ?_)⟩;have df:=(cT.de [6,7,8] 0 1 2 3 4 5).bU;have dS:=(df.mD (s:=⟨ep,true,life,K,B,(lj q ek eU)⟩) 3 rfl).bU;rw[Zl];exact dS.rt 3 rfl rfl
 refine .z (.not rfl) (.ae 2 rfl (tG func14 rfl ?_));have aZ:=(bd.de [] 0 1 2 3 4 5).cf;have bb:=(aZ.mD (s:=⟨ep,false,life,K,B,q⟩) 0 rfl).cf;rw[zO];exact bb.rt 0 rfl rfl
theorem P'{p:Prop}(h:p:=by first|exact Zi bh|exact Zj bh|exact Zk bh):p:=h
theorem Qa{p:Prop}(h:p:=by assumption):p:=h
theorem aaw{w0:World}{F:Nat->Prop}{c_:Nat}{wid:Int}{ks:List Int}{ep life:Int}{up:Bool}{K B:List cX}{q:List bc}{n:Nat}{ek eU gc:Int}(bf:(iK (R:=az) 3 95 164 123 5 176 172 c_ wid ks (⟨ep,up,life,K,B,q⟩)).p F w0)(bs:∀b,F b->b<w0.heap.size)(k':w7 ks)(bX:ha ks n (⟨ep,up,life,K,B,q⟩:d'))(aN:n<=100000)(hm:bY ek/\bY eU/\bY gc):
 bI 14 #[ptr c_ 0,.iface 38 (.agg #[U ek,U eU,U gc])] w0 (al λaC ai=>aC=.tuple #[]/\Mod F w0 ai/\∃bu,(iK (R:=az) 3 95 164 123 5 176 172 c_ wid ks (j5 wid ks ⟨ep,up,life,K,B,q⟩ (.lY ek eU gc))).p bu ai/\∀b,bu b->b<ai.heap.size/\(F b\/w0.heap.size<=b)):=by
 have kW:=bX.nA;have ih:=bX.life;have k9:=bX.ep;dsimp only at kW ih k9;obtain⟨w4,BQ,aax⟩:=hm;have dO:=au.hr (R:=az) bf (λb ab=>⟨bs b ab,id⟩) (λ_ h=>h.elim);obtain⟨⟨kg,dJ,gL,j6,dT⟩,bw⟩:=dO.fM 0;change au az F w0 w0 [bk [ax c_ [U wid,U ep,.bool up,kg,ptr dJ 0,.map (some gL),ptr dT 0] 95,aS aH.encI 3 1 kg ks,hQ 164 123 5 dJ life K,jl fC mi gL (lp ks j6 B),lZ j6 (ks.map (gn B)),j2 176 172 dT q]] at bw;have a7:=(bw.u 0 []).n6;refine bR func14 rfl ntmps14 rfl ?_;have f1:=a7.k 0;refine .go 4 rfl ?_;refine .ac (.aF yx rfl (yy (w0:=w0) f1) ?_);rintro _ ai ⟨rfl,av⟩;have bd:=a7.ext av;cases up
 case true =>
  refine .z (.not rfl) ?_;refine .go 7 rfl ?_;refine .z (.pM qT rfl) ?_;refine .go 3 rfl ?_;refine .ac (.alloc n2 λa1 aK aA aG cr aW=>?_);have bb:=(bd.cR aA aG aW).n7;have f2:=bb.k 6;refine .ac (.st n2 f2 λbp aP bQ=>?_);have a_:=(bb.c8 6 aP bQ.hE).n7;refine .ae 3 rfl ?_;refine eV (λi=>Nat.beq i 14) 26 (λan=>Mod (b_ 0) bp an) mixed λbW aY=>?_
  have bl:=a_.ext aY;have jo:Mod (b_ 0) bp bW:=Mod.gj aY;refine⟨jo,?_⟩;refine .gd 2 rfl ?_;refine .z rfl (.fieldAddr ZV rfl) ?_;have f3:=a_.k 6;refine .z rfl (.cg aJ rfl (λ_ ao=>(f3.cell 0 _ rfl).bF ao (Nat.succ_ne_zero _))) ?_;refine .gd 2 rfl ?_;refine .z rfl (.fieldAddr KS rfl) ?_;have f4:=a_.k 0;refine .z rfl (.cg aJ rfl (λ_ ao=>(f4.cell 0 _ rfl).bF ao (Nat.succ_ne_zero _))) ?_;refine .gl rfl (.eq rfl rfl) (λaL=>?_) λaL=>?_
  . refine .gd 2 rfl ?_;refine .z rfl (.fieldAddr ZW rfl) ?_;refine .z rfl (.cg aJ rfl (λ_ ao=>(f3.cell 1 _ rfl).bF ao (Nat.succ_ne_zero _))) ?_;have f5:=bl.k 0;obtain⟨aay,sg,aaz,aaA⟩:=bl.ec 2;refine .gd 1 rfl ?_;refine .ac rfl (.aF PZ rfl (P8 (w0:=bW) f5 sg) ?_);rintro _ cF ⟨rfl,bt⟩;have bM:=bl.ext bt;have mx:=jo.ext bt;refine⟨.inr mx,?_⟩;refine .gl rfl (.eq rfl rfl) (λaX=>?_) λaX=>?_
    . refine .gd 2 rfl ?_;refine .z rfl (.fieldAddr KP rfl) ?_;have f6:=a_.k 6;refine .z rfl (.cg aJ rfl (λ_ ao=>(f6.cell 2 _ rfl).bF ao (Nat.succ_ne_zero _))) ?_;refine .gd 2 rfl ?_;refine .z rfl (.fieldAddr BI rfl) ?_;have f7:=a_.k 0;refine .z rfl (.cg aJ rfl (λ_ ao=>(f7.cell 1 _ rfl).bF ao (Nat.succ_ne_zero _))) ?_;refine .ee rfl (.gt rfl rfl) λbL bq=>?_
      refine .gd 1 rfl ?_;refine .nil ?_;cases bL
      case true =>
       replace bq:=zj bq;refine .go 3 rfl ?_;have f8:=bM.k 6;refine .a6 KP aJ f8 ?_;refine .go 1 rfl ?_;refine .z (.fieldAddr BI rfl) ?_;have f9:=bM.k 0;refine .ac (.store aJ rfl rfl rfl rfl rfl f9 dn λc9 b9 fA cN=>?_);have bD:=(bM.c8 0 b9 cN.xY).n7;refine .go 5 rfl ?_;refine .z (.ir n3 rfl b2 zeroValue35) ?_;refine .go 3 rfl ?_;refine .ac (.alloc dZ λdC cE cH cG g' c'=>?_);have br:=(bD.cR cH cG c').n8;have f10:=br.k 7;refine .ac (.store dZ rfl rfl rfl rfl rfl f10 dn λeQ dj gY eW=>?_);have bP:=(br.c8 7 dj eW.vp).n8;refine .ae 3 rfl ?_;refine eV (λi=>Nat.beq i 4) 31 (λan=>Mod (b_ 0) eQ an) mixed λfl dp=>?_
       have b8:=bP.ext dp;have J2:Mod (b_ 0) eQ fl:=Mod.gj dp;refine⟨J2,?_⟩;refine .gd 31 rfl ?_;refine .nil ?_;refine .go 5 rfl ?_;refine .z (.ir qs rfl b2 zeroValue104) ?_;refine .go 3 rfl ?_;refine .ac (.alloc kf λfs de dM cv kd gA=>?_);have cp:=(b8.cR dM cv gA).h3;have f11:=cp.k 8;refine .ac (.st kf f11 λhy eT pZ=>?_);have cT:=(cp.c8 8 eT pZ.c2).h3;refine .ae 8 rfl ?_;refine kN func14 rfl ?_;have df:=(cT.de [6,7,8] 0 1 2 3 4 5).bU;have dS:=(df.mD (s:=⟨gc,true,life,K,B,q⟩) 3 rfl).bU;rw[Pz (ep:=ep) (life:=life) (K:=K) (B:=B) (q:=q) (id:=wid) (a:=ek) (b:=eU) (c:=gc) (Px Qa Qa Qa)];exact dS.rt 3 rfl rfl
      replace bq:=zk bq;refine .go 6 rfl ?_;refine .z (.ir n3 rfl b2 zeroValue35) ?_;refine .go 3 rfl ?_;refine .ac (.alloc dZ λc9 cE b9 cG fA cN=>?_);have bH:=(bM.cR b9 cG cN).n8;have f8:=bH.k 7;refine .ac (.store dZ rfl rfl rfl rfl rfl f8 dn λdC cH g' c'=>?_);have br:=(bH.c8 7 cH c'.vp).n8;refine .ae 3 rfl ?_;refine eV (λi=>Nat.beq i 4) 31 (λan=>Mod (b_ 0) dC an) mixed λeQ dj=>?_
      have bP:=br.ext dj;have sN:Mod (b_ 0) dC eQ:=Mod.gj dj;refine⟨sN,?_⟩;refine .gd 31 rfl ?_;refine .nil ?_;refine .go 5 rfl ?_;refine .z (.ir qs rfl b2 zeroValue104) ?_;refine .go 3 rfl ?_;refine .ac (.alloc kf λfl de dp cv gY eW=>?_);have bT:=(bP.cR dp cv eW).h3;have f9:=bT.k 8;refine .ac (.store kf rfl rfl rfl rfl rfl f9 dn λfs dM kd gA=>?_);have cp:=(bT.c8 8 dM gA.c2).h3;refine .ae 8 rfl ?_;refine kN func14 rfl ?_;have cT:=(cp.de [6,7,8] 0 1 2 3 4 5).bU;have df:=(cT.mD (s:=⟨ep,true,life,K,B,q⟩) 3 rfl).bU;rw[DT (ep:=ep) (life:=life) (K:=K) (B:=B) (q:=q) (id:=wid) (a:=ek) (b:=eU) (c:=gc) P'];exact df.rt 3 rfl rfl
    refine .gd 10 rfl ?_;refine .nil ?_;refine .go 6 rfl ?_;refine .z (.ir n3 rfl b2 zeroValue35) ?_;refine .go 3 rfl ?_;refine .ac (.alloc dZ λc9 bL b9 bq fA cN=>?_);have bH:=(bM.cR b9 bq cN).n8;have f6:=bH.k 7;refine .ac (.store dZ rfl rfl rfl rfl rfl f6 dn λdC cH g' c'=>?_);have br:=(bH.c8 7 cH c'.vp).n8;refine .ae 3 rfl ?_;refine eV (λi=>Nat.beq i 4) 31 (λan=>Mod (b_ 0) dC an) mixed λeQ dj=>?_
    have bP:=br.ext dj;have sN:Mod (b_ 0) dC eQ:=Mod.gj dj;refine⟨sN,?_⟩;refine .gd 31 rfl ?_;refine .nil ?_;refine .go 5 rfl ?_;refine .z (.ir qs rfl b2 zeroValue104) ?_;refine .go 3 rfl ?_;refine .ac (.alloc kf λfl cE dp cG gY eW=>?_);have bT:=(bP.cR dp cG eW).h3;have f7:=bT.k 8;refine .ac (.store kf rfl rfl rfl rfl rfl f7 dn λfs dM kd gA=>?_);have cp:=(bT.c8 8 dM gA.c2).h3;refine .ae 8 rfl ?_;refine kN func14 rfl ?_;have cT:=(cp.de [6,7,8] 0 1 2 3 4 5).bU;have df:=(cT.mD (s:=⟨ep,true,life,K,B,q⟩) 3 rfl).bU;rw[DT (ep:=ep) (life:=life) (K:=K) (B:=B) (q:=q) (id:=wid) (a:=ek) (b:=eU) (c:=gc) P'];exact df.rt 3 rfl rfl
  refine .gd 17 rfl ?_;refine .nil ?_;refine .go 6 rfl ?_;refine .z (.ir n3 rfl b2 zeroValue35) ?_;refine .go 3 rfl ?_;refine .ac (.alloc dZ λcF bz bt aX fA cN=>?_);have bD:=(bl.cR bt aX cN).n8;have f5:=bD.k 7;refine .ac (.st dZ f5 λc9 b9 c'=>?_);have bH:=(bD.c8 7 b9 c'.vp).n8;refine .ae 3 rfl ?_;refine eV (λi=>Nat.beq i 4) 31 (λan=>Mod (b_ 0) c9 an) mixed λdC cH=>?_
  have br:=bH.ext cH;have ll:Mod (b_ 0) c9 dC:=Mod.gj cH;refine⟨ll,?_⟩;refine .gd 31 rfl ?_;refine .nil ?_;refine .go 5 rfl ?_;refine .z (.ir qs rfl b2 zeroValue104) ?_;refine .go 3 rfl ?_;refine .ac (.alloc kf λeQ bL dj bq gY eW=>?_);have b8:=(br.cR dj bq eW).h3;have f6:=b8.k 8;refine .ac (.st kf f6 λfl dp gA=>?_);have bT:=(b8.c8 8 dp gA.c2).h3;refine .ae 8 rfl ?_;refine kN func14 rfl ?_;have cp:=(bT.de [6,7,8] 0 1 2 3 4 5).bU;have cT:=(cp.mD (s:=⟨ep,true,life,K,B,q⟩) 3 rfl).bU;rw[DT (ep:=ep) (life:=life) (K:=K) (B:=B) (q:=q) (id:=wid) (a:=ek) (b:=eU) (c:=gc) P'];exact cT.rt 3 rfl rfl
 refine .z (.not rfl) ?_;refine .ae 2 rfl ?_;refine tG func14 rfl ?_;have aZ:=(bd.de [] 0 1 2 3 4 5).cf;have bb:=(aZ.mD (s:=⟨ep,false,life,K,B,q⟩) 0 rfl).cf;rw[zO];exact bb.rt 0 rfl rfl
theorem GU{p:Prop}(h:p:=by first|exact Zg bh|exact Pv bh|exact Zh bh|exact KF (.inl bh)|exact KF (.inr bh)):p:=h
theorem GV{p:Prop}(h:p:=by assumption):p:=h
theorem D9{w0:World}{F:Nat->Prop}{c_:Nat}{wid:Int}{ks:List Int}{ep life:Int}{up:Bool}{K B:List cX}{q:List bc}{n:Nat}{a:bc}(bf:(iK (R:=az) 3 95 164 123 5 176 172 c_ wid ks (⟨ep,up,life,K,B,q⟩)).p F w0)(bs:∀b,F b->b<w0.heap.size)(k':w7 ks)(bX:ha ks n (⟨ep,up,life,K,B,q⟩:d'))(aN:n<=100000)(hm:a.Ok/\a.text.length<=1000/\a.after.word.length<=1000):
 bI 14 #[ptr c_ 0,.iface 35 (.agg #[U a.slot,U a.query,U a.shard,U a.seq,U a.fP,aE a.text,U a.k,U a.batch,.bool a.first,U a.after.ck,aE a.after.word])] w0 (al λaC ai=>aC=.tuple #[]/\Mod F w0 ai/\∃bu,(iK (R:=az) 3 95 164 123 5 176 172 c_ wid ks (j5 wid ks ⟨ep,up,life,K,B,q⟩ (.ask a))).p bu ai/\∀b,bu b->b<ai.heap.size/\(F b\/w0.heap.size<=b)):=by
 have kW:=bX.nA;have ih:=bX.life;have k9:=bX.ep;dsimp only at kW ih k9;obtain⟨aaB,Gd,zZ⟩:=hm;have dO:=au.hr (R:=az) bf (λb ab=>⟨bs b ab,id⟩) (λ_ h=>h.elim);obtain⟨⟨kg,dJ,gL,j6,dT⟩,bw⟩:=dO.fM 0;change au az F w0 w0 [bk [ax c_ [U wid,U ep,.bool up,kg,ptr dJ 0,.map (some gL),ptr dT 0] 95,aS aH.encI 3 1 kg ks,hQ 164 123 5 dJ life K,jl fC mi gL (lp ks j6 B),lZ j6 (ks.map (gn B)),j2 176 172 dT q]] at bw;have a7:=(bw.u 0 []).n6;refine bR func14 rfl ntmps14 rfl (have f1:=a7.k 0;.go 4 rfl (.ac (.aF yx rfl (yy (w0:=w0) f1) ?_)));rintro _ ai ⟨rfl,av⟩;have bd:=a7.ext av;cases up
 case true =>
  refine .z (.not rfl) (.go 7 rfl (.z (.ir qT rfl b2 zeroValue38) ?_));refine .go 3 rfl (.ac (.alloc n2 λa1 aK aA aG cr aW=>have bb:=(bd.cR aA aG aW).n7;have f2:=bb.k 6;.ac (.st n2 f2 λbp aP bQ=>?_)));have a_:=(bb.c8 6 aP bQ.hE).n7;refine .ae 3 rfl (eV (λi=>Nat.beq i 14) 26 (λan=>Mod (b_ 0) bp an) mixed λbW aY=>have bl:=a_.ext aY;have jo:Mod (b_ 0) bp bW:=Mod.gj aY;⟨jo,?_⟩);refine .gd 26 rfl (.nil (.go 6 rfl ?_));refine .z (.pM n3 rfl) (.go 3 rfl (.ac (.alloc dZ λcF aR bt aL fA cN=>?_)));have bD:=(bl.cR bt aL cN).n8;have f3:=bD.k 7;refine .ac (.st dZ f3 λc9 b9 c'=>?_);have bH:=(bD.oJ (cs':=(eC a)) (i:=7) rfl b9 c').n8;refine .ae 3 rfl (eV (λi=>Nat.beq i 4) 31 (λan=>Mod (b_ 0) c9 an) mixed λdC cH=>have br:=bH.ext cH;have ll:Mod (b_ 0) c9 dC:=Mod.gj cH;⟨ll,?_⟩);have f4:=bH.k 7;refine .gd 2 rfl (.z rfl (.cq dZ rfl (λ_ ao=>f4.row.bF ao (Nat.succ_ne_zero _)) rfl) (.z rfl (.mkIf n3 rfl) ?_));refine .ac rfl (.aF anA rfl (aow (w0:=dC) (m:=a) GV aa aa) ?_);rintro _ eQ ⟨⟨bz,aX,rfl⟩,dj⟩;have bP:=br.ext dj;have sN:=ll.ext dj;refine⟨.inr sN,.gd 2 rfl ?_⟩;cases bz
  case true =>
   replace aX:=aX.symm;refine .z rfl (.fieldAddr zn rfl) (have f5:=bH.k 7;.z rfl (.cg aJ rfl (λ_ ao=>(f5.cell 4 _ rfl).bF ao (Nat.succ_ne_zero _))) (.gd 2 rfl ?_));refine .z rfl (.fieldAddr BI rfl) (have f6:=bH.k 0;.z rfl (.cg aJ rfl (λ_ ao=>(f6.cell 1 _ rfl).bF ao (Nat.succ_ne_zero _))) (.gl rfl (.eq rfl rfl) (λbq=>?_) λbq=>?_))
   . refine .gd 2 rfl (.z rfl (.fieldAddr zn rfl) (.z rfl (.cg aJ rfl (λ_ ao=>(f5.cell 4 _ rfl).bF ao (Nat.succ_ne_zero _))) ?_));refine .bg rfl (.gt rfl rfl) (λcG=>?_) λcG=>?_
     . refine .gd 4 rfl (.z rfl (.fieldAddr GB rfl) (.z rfl (.cg Gy rfl (λ_ ao=>(f6.cell 5 _ rfl).bF ao (Nat.succ_ne_zero _))) ?_));refine .z rfl (.fieldAddr qG rfl) (.z rfl (.cg aJ rfl (λ_ ao=>(f5.cell 2 _ rfl).bF ao (Nat.succ_ne_zero _))) ?_);have f7:=bH.mp (i:=3) rfl;have BM:j6.length=ks.length:=(PE (bP.nL 4).choose_spec.1).trans (List.length_map ..);rcases Pp (B:=B) BM a.shard with ⟨KZ,pr⟩|⟨j,oM,BN,BO,pr⟩
       . skip
         refine .z rfl (.Wh (key:=fC) (val:=mi) (u4 underlying3) underlying92 zeroValue101 rfl rfl (λ_ ao=>(kQ.keep f7 ao (Nat.succ_ne_zero _)).o) pr) (.z rfl (.field (v:=(.pointer none:Value)) rfl (λ_=>by kernel_rfl)) (.z rfl (.EU underlying99 rfl rfl) ?_));refine .gd 1 rfl (.nil (.go 5 rfl ?_));refine .z (.ir qs rfl b2 zeroValue104) (.go 3 rfl (.ac (.alloc kf λfl de dp cv gY eW=>?_)));have bT:=(bP.cR dp cv eW).h3;have f8:=bT.k 8;refine .ac (.store kf rfl rfl rfl rfl rfl f8 dn λfs dM kd gA=>have cp:=(bT.c8 8 dM gA.c2).h3;.ae 8 rfl (kN func14 rfl ?_));have cT:=(cp.de [6,7,8] 0 1 2 3 4 5).bU;have df:=(cT.mD (s:=⟨ep,true,life,K,B,q⟩) 3 rfl).bU;rw[vP (ep:=ep) (life:=life) (K:=K) (B:=B) (q:=q) (ks:=ks) (a:=a) GU];exact df.rt 3 rfl rfl
       . skip
         have BP:(ks.map (gn B))[j]?=some (gn B a.shard):=(by rw[List.getElem?_map,BN];rfl);have K0:=List.mem_of_getElem? BN;obtain⟨aoz,aoA,GR,aoB⟩:=bP.PD (i:=4) rfl BO BP;rcases GR with ⟨cI,ho⟩|⟨aoC,_,_,cI,ho,_⟩
         . subst cI;refine .z rfl (.Fj (key:=fC) (val:=mi) (u4 underlying3) underlying92 zeroValue101 rfl rfl (λ_ ao=>(kQ.keep f7 ao (Nat.succ_ne_zero _)).o) pr) (.z rfl (.field (v:=(.pointer none:Value)) rfl (λ_=>by kernel_rfl)) (.z rfl (.EU underlying99 rfl rfl) ?_));refine .gd 1 rfl (.nil (.go 5 rfl ?_));refine .z (.ir qs rfl b2 zeroValue104) (.go 3 rfl (.ac (.alloc kf λfl de dp cv gY eW=>?_)));have bT:=(bP.cR dp cv eW).h3;have f8:=bT.k 8;refine .ac (.store kf rfl rfl rfl rfl rfl f8 dn λfs dM kd gA=>have cp:=(bT.c8 8 dM gA.c2).h3;.ae 8 rfl (kN func14 rfl ?_));have cT:=(cp.de [6,7,8] 0 1 2 3 4 5).bU;have df:=(cT.mD (s:=⟨ep,true,life,K,B,q⟩) 3 rfl).bU;rw[vP (ep:=ep) (life:=life) (K:=K) (B:=B) (q:=q) (ks:=ks) (a:=a) GU];exact df.rt 3 rfl rfl
         . subst cI;refine .z rfl (.Fj (key:=fC) (val:=mi) (u4 underlying3) underlying92 zeroValue101 rfl rfl (λ_ ao=>(kQ.keep f7 ao (Nat.succ_ne_zero _)).o) pr) (.z rfl (.field (v:=ptr aoC 0) rfl (λ_=>by kernel_rfl)) (.z rfl (.EU underlying99 rfl rfl) ?_));refine .gd 1 rfl (.nil (.ae 1 rfl ?_));refine eV (λi=>Nat.beq i 5) 6 (λan=>dv an c_ [U wid,U ep,.bool true,kg,ptr dJ 0,.map (some gL),ptr dT 0] 95/\dv an aR (eC a) 35) mixed λfl dp=>have b8:=bP.ext dp;have f8:=b8.k 0;have f9:=b8.k 7;⟨⟨f8,f9⟩,?_⟩
           refine .gd 2 rfl (.z rfl (.fieldAddr GC rfl) (.z rfl (.cg vr rfl (λ_ ao=>(ao.1.cell 6 _ rfl))) ?_));refine .z rfl (.cq dZ rfl (λ_ ao=>ao.2.row) rfl) ?_;obtain⟨h4,dx,ds,dd⟩:=b8.ec 5;refine .ac rfl (.aF anD rfl (alh (w0:=fl) (a:=a) dx (λb ab=>(ds b ab).2) GV aa) ?_);rintro _ fs ⟨rfl,dM,fq,fc,d_⟩;have bT:=(dd _ _ _ dM fc d_).n8;clear dd fc;have f12:=bT.k 0;have f13:=bT.k 7;refine⟨.inr ⟨f12,f13⟩,.nil (.go 3 rfl ?_)⟩;refine .z (.ir qs rfl b2 zeroValue104) (.go 3 rfl (.ac (.alloc kf λhy de eT cv gY eW=>?_)));have cT:=(bT.cR eT cv eW).h3;have f14:=cT.k 8;refine .ac (.store kf rfl rfl rfl rfl rfl f14 dn λi_ gO kd gA=>have df:=(cT.c8 8 gO gA.c2).h3;.ae 8 rfl (kN func14 rfl ?_));have dS:=(df.de [6,7,8] 0 1 2 3 4 5).bU;have eu:=(dS.mD (s:=⟨ep,true,life,K,B,(gb q a)⟩) 3 rfl).bU;rw[Py (ep:=ep) (life:=life) (K:=K) (B:=B) (q:=q) (ks:=ks) (a:=a) (Pw GV GV GV K0 ho)];exact eu.rt 3 rfl rfl
     refine .gd 12 rfl (.nil (.go 5 rfl ?_));refine .z (.ir qs rfl b2 zeroValue104) (.go 3 rfl (.ac (.alloc kf λfl de dp cv gY eW=>?_)));have bT:=(bP.cR dp cv eW).h3;have f7:=bT.k 8;refine .ac (.store kf rfl rfl rfl rfl rfl f7 dn λfs dM kd gA=>have cp:=(bT.c8 8 dM gA.c2).h3;.ae 8 rfl (kN func14 rfl ?_));have cT:=(cp.de [6,7,8] 0 1 2 3 4 5).bU;have df:=(cT.mD (s:=⟨ep,true,life,K,B,q⟩) 3 rfl).bU;rw[vP (ep:=ep) (life:=life) (K:=K) (B:=B) (q:=q) (ks:=ks) (a:=a) GU];exact df.rt 3 rfl rfl
   refine .gd 17 rfl (.nil (.go 5 rfl ?_));refine .z (.ir qs rfl b2 zeroValue104) (.go 3 rfl (.ac (.alloc kf λfl cE dp cG gY eW=>?_)));have bT:=(bP.cR dp cG eW).h3;have f7:=bT.k 8;refine .ac (.store kf rfl rfl rfl rfl rfl f7 dn λfs dM kd gA=>have cp:=(bT.c8 8 dM gA.c2).h3;.ae 8 rfl (kN func14 rfl ?_));have cT:=(cp.de [6,7,8] 0 1 2 3 4 5).bU;have df:=(cT.mD (s:=⟨ep,true,life,K,B,q⟩) 3 rfl).bU;rw[vP (ep:=ep) (life:=life) (K:=K) (B:=B) (q:=q) (ks:=ks) (a:=a) GU];exact df.rt 3 rfl rfl
  replace aX:=aX.symm;refine .gd 24 rfl (.nil (.go 5 rfl ?_));refine .z (.ir qs rfl b2 zeroValue104) (.go 3 rfl (.ac (.alloc kf λfl bL dp bq gY eW=>?_)));have bT:=(bP.cR dp bq eW).h3;have f5:=bT.k 8;refine .ac (.st kf f5 λfs dM gA=>?_);have cp:=(bT.c8 8 dM gA.c2).h3;refine .ae 8 rfl (kN func14 rfl ?_);have cT:=(cp.de [6,7,8] 0 1 2 3 4 5).bU;have df:=(cT.mD (s:=⟨ep,true,life,K,B,q⟩) 3 rfl).bU;rw[vP (ep:=ep) (life:=life) (K:=K) (B:=B) (q:=q) (ks:=ks) (a:=a) GU];exact df.rt 3 rfl rfl
 refine .z (.not rfl) (.ae 2 rfl (tG func14 rfl ?_));have aZ:=(bd.de [] 0 1 2 3 4 5).cf;have bb:=(aZ.mD (s:=⟨ep,false,life,K,B,q⟩) 0 rfl).cf;rw[zO];exact bb.rt 0 rfl rfl
end Go.Proofs
