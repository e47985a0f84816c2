/-
  What the law WorkerScript needs, part 5 of 7: theory, and walks through the code. Names are said short.
-/
import Derived.Test.YtjideiielmlccaaGreatSWorkerScriptD
set_option linter.unusedVariables false
set_option linter.unusedSimpArgs false
set_option maxRecDepth 20000
set_option maxHeartbeats 8000000
namespace Go.Proofs
open Tryz
open Go.aG Go.ak
theorem wW:ug Tryz.prog 172 lC:=⟨λe a w=>by kernel_rfl,λa=>by simp[lC,Instr.sameBits],⟨_,underlying172,λa b=>rfl⟩,λa b w=>(aip a b w)⟩
theorem J3{w0:World}{F:Nat->Prop}{dc:Nat}{q:List bb}(bf:(j1 (R:=az) 176 172 dc q).p F w0)(bs:∀b,F b->b<w0.heap.size):
 bJ 96 #[ptr dc 0] w0 (an λaC ai=>aC=U (q.length:Int)/\Ext w0 ai):=by
 obtain⟨⟨mO,iQ,m⟩,dM,fi,nP,wx,ako⟩:=bf;have tM:=(nP 0 _ rfl).1;obtain⟨g0,FX,nr⟩:=nP 1 _ rfl;have J4:=(nP 2 _ rfl).1;have wR:=FX.cj.cz (Nat.zero_le _) FX.lt;have cT:=au.f_ w0;have Dz:(q.map bb.pl).length=q.length:=List.length_map ..;change ds w0 dc [mO,.map (some iQ)] 176 at tM;change aq k0 w0 (cm w0) mO (q.map bb.pl) at wR;change kP lC k_ w0 iQ m at J4;change jr m q at dM;exact bP func96 rfl ntmps96 rfl (.go 8 rfl (.z (.l5 underlying93 rfl rfl) (.go 7 rfl (.z (.fieldAddr xY rfl) (have bT:=tM.row.sub 0 1 dm;.z (.dQ xU bT) (.z (.ct underlying173 (wR) rfl) (.ae 2 rfl (aN func96 rfl rfl (an.mk ⟨(cR aa),cT.mod⟩)))))))))
theorem akp{w0:World}:
 bJ 93 #[] w0 (an λaC ai=>∃dc bz,aC=ptr dc 0/\Ext w0 ai/\(j1 (R:=az) 176 172 dc []).p bz ai/\∀b,bz b->b<ai.heap.size/\w0.heap.size<=b):=by
 have cT:=au.f_ w0;refine bP func93 rfl ntmps93 rfl (.go 6 rfl (.ac (.WD (key:=lC) (val:=k_) λai aL av aF cq aW=>have a6:=(cT.WE av aF aW).cf;.z (.build (vs:=#[(1,(.map (some aL):Value))]) (v:=.agg #[.slice none 0 0,.map (some aL)]) rfl (λ_=>by kernel_rfl)) (.ac (.box [.slice none 0 0,.map (some aL)] rfl rfl λaZ aQ aA aJ ec bQ=>have a1:=(a6.cS aA aJ bQ).bM;.ae 2 rfl (aN func93 rfl rfl ?_))))));have bd:au az az w0 aZ [jq lC k_ aL [],aw aQ [.slice none 0 0,.map (some aL)] 176,lB k0 172 2 (.slice none 0 0) ([]:List (Int×Int))]:=a1.new (Mod.refl _ _) (F:=λ_=>False) ⟨0,jB.nil,λb ab=>aa⟩ (λ_ h=>h.elim);have ba:=(bd.bx [] 1 2 0).cf;have bm:=(ba.ui 0 rfl (q:=[]) jr.nil).cf;obtain⟨cF,cW,cX,cQ⟩:=bm.fin;exact an.mk ⟨_,cW,rfl,cF,cX,λb ab=>⟨(cQ b ab).1,(cQ b ab).2.resolve_left id⟩⟩
theorem DA{p:Prop}(h:p:=by rw[gR.2];exact nu):p:=h
theorem akq{w0:World}{F:Nat->Prop}{dc:Nat}{q:List bb}{a:bb}(bf:(j1 (R:=az) 176 172 dc q).p F w0)(bs:∀b,F b->b<w0.heap.size)(bW:a.Ok)(OM:q.length<=100000):
 bJ 47 #[ptr dc 0,.agg #[U a.slot,U a.query,U a.shard,U a.seq,U a.ga,aD a.text,U a.k,U a.batch,.bool a.first,U a.after.cp,aD a.after.word]] w0 (an λaC ai=>aC=.bool (nm q a)/\Mod F w0 ai/\∃bz,(j1 (R:=az) 176 172 dc (gg q a)).p bz ai/\∀b,bz b->b<ai.heap.size/\(F b\/w0.heap.size<=b)):=by
 have yc:=bW.slot;have ON:=bW.shard;have dR:=au.hh (R:=az) bf (λb ab=>⟨bs b ab,id⟩) (λ_ h=>h.elim);have bw:au az F w0 w0 [j1 176 172 dc q]:=dR;obtain⟨⟨nU,gJ,mB⟩,a6⟩:=bw.fB 0;obtain⟨nu,bc⟩:=a6.and (i:=0) rfl;change au az F w0 w0 [bh [aw dc [nU,.map (some gJ)] 176,lB k0 172 2 nU (q.map bb.pl),jq lC k_ gJ mB]] at bc;change jr mB q at nu;have a1:=(bc.u 0 []).cv;have Dz:(q.map bb.pl).length=q.length:=List.length_map ..;refine bP func47 rfl ntmps47 rfl (.go 2 rfl (.ac (.box (ej a) rfl rfl λai aL av aF cq aW=>have ba:=(a1.cS av aF aW).bU;.go 6 rfl (.z (.l5 underlying93 rfl rfl) (.go 1 rfl (have f1:=ba.k 3;.a7 tm aK f1 (.bg (.lt rfl rfl) (λaJ=>?_) λaJ=>?_)))))))
 . exact .ae 22 rfl (aN func47 rfl rfl (have gR:=Fi (q:=q) (a:=a) aa;have bm:=(ba.ty (lB k0 172 2 nU ((gg q a).map bb.pl)) 1 rfl (λei bR=>(by rw[gR.2];exact bR))).bU;have bN:=(bm.bx [3] 0 1 2).bM;have bC:=(bN.ui 1 rfl (q:=(gg q a)) DA).bM;bC.rt 1 rfl (congrArg Value.bool gR.1.symm)))
 refine .go 2 rfl (.a7 tm aK f1 (.bg (.ge rfl rfl) (λaX=>?_) λaX=>?_))
 . exact .ae 17 rfl (aN func47 rfl rfl (have gR:=Fi (q:=q) (a:=a) aa;have bm:=(ba.ty (lB k0 172 2 nU ((gg q a).map bb.pl)) 1 rfl (λei bR=>(by rw[gR.2];exact bR))).bU;have bN:=(bm.bx [3] 0 1 2).bM;have bC:=(bN.ui 1 rfl (q:=(gg q a)) DA).bM;bC.rt 1 rfl (congrArg Value.bool gR.1.symm)))
 refine .go 2 rfl (.a7 qE aK f1 (.bg (.lt rfl rfl) (λbr=>?_) λbr=>?_))
 . exact .ae 12 rfl (aN func47 rfl rfl (have gR:=Fi (q:=q) (a:=a) aa;have bm:=(ba.ty (lB k0 172 2 nU ((gg q a).map bb.pl)) 1 rfl (λei bR=>(by rw[gR.2];exact bR))).bU;have bN:=(bm.bx [3] 0 1 2).bM;have bC:=(bN.ui 1 rfl (q:=(gg q a)) DA).bM;bC.rt 1 rfl (congrArg Value.bool gR.1.symm)))
 refine .go 2 rfl (.a7 qE aK f1 (.bg (.ge rfl rfl) (λcE=>?_) λcE=>?_))
 . exact .ae 7 rfl (aN func47 rfl rfl (have gR:=Fi (q:=q) (a:=a) aa;have bm:=(ba.ty (lB k0 172 2 nU ((gg q a).map bb.pl)) 1 rfl (λei bR=>(by rw[gR.2];exact bR))).bU;have bN:=(bm.bx [3] 0 1 2).bM;have bC:=(bN.ui 1 rfl (q:=(gg q a)) DA).bM;bC.rt 1 rfl (congrArg Value.bool gR.1.symm)))
 refine .go 6 rfl (.a7 tm aK f1 (.a7 qE aK f1 (.z (.build (vs:=#[(0,(U a.slot:Value)),(1,(U a.shard:Value))]) (v:=.agg #[U a.slot,U a.shard]) rfl (λ_=>by kernel_rfl)) (.ac (.alloc j8 λaZ dd aA cw ec bQ=>have bN:=(ba.cS aA cw bQ).cU;have f2:=bN.k 4;.ac (.st j8 f2 λbp aM cP=>?_))))));have bC:=(bN.db 4 aM cP.c2).cU;refine .ae 2 rfl (eT (λi=>Nat.beq i 9 || Nat.beq i 10) 12 (λao=>ds ao dc [nU,.map (some gJ)] 176/\ds ao dd [U a.slot,U a.shard] 172/\kP lC k_ ao gJ mB) mixed λbX aY=>have bL:=bC.ext aY;have f3:=bL.k 0;have f4:=bL.k 4;have f5:=bL.mp (i:=2) rfl;⟨⟨f3,f4,f5⟩,?_⟩);refine .gd 2 rfl (.z rfl (.fieldAddr xZ rfl) (.z rfl (.ca xV rfl (λ_ al=>(al.1.cell 1 _ rfl))) (.z rfl (.cB j8 rfl (λ_ al=>al.2.1.row) rfl) ?_)))
 cases m':k' q a.pl with
 | none =>
  refine .z rfl (.ahN (a:=a.pl) (val:=k_) wW underlying174 zeroValue35 rfl rfl (λ_ al=>al.2.2) (by rw[nu.at_];exact m')) (.gd 3 rfl (.ac rfl (.alloc ed λcH gN bu dw hc df=>have bO:=(bL.cS bu dw df).n6;have f8:=bO.k 0;have f9:=bO.k 4;have f10:=bO.mp (i:=2) rfl;⟨.inr ⟨f8,f9,f10⟩,(have f11:=bO.k 5;.ac rfl (.store ed rfl rfl rfl rfl rfl f11 dm λc8 b2 g_ e5=>have b5:=(bO.db 5 b2 e5.wF).n6;have f12:=b5.k 0;have f13:=b5.k 4;have f14:=b5.mp (i:=2) rfl;⟨.inr ⟨f12,f13,f14⟩,.gd 1 rfl (.nil (.go 32 rfl (.z (.not rfl) (.ae 3 rfl (eT (λi=>Nat.beq i 6 || Nat.beq i 7 || Nat.beq i 10) 10 (λao=>ds ao dc [nU,.map (some gJ)] 176/\ds ao dd [U a.slot,U a.shard] 172) mixed λdA cC=>?_)))))⟩))⟩)));have bS:=b5.ext cC;have f15:=bS.k 0;have f16:=bS.k 4;refine⟨⟨f15,f16⟩,.gd 3 rfl (.z rfl (.fieldAddr xY rfl) (.z rfl (.ca xU rfl (λ_ al=>(al.1.cell 0 _ rfl))) (.z rfl (.cB j8 rfl (λ_ al=>al.2.row) rfl) (.ac rfl (.buildSlice [(.agg #[U a.slot,U a.shard]:Value)] underlying173 j8 rfl rfl rfl b0 λeM hB dg dH ka gA=>have cu:=aq.eA (enc:=k0) gA ([(Prod.mk a.slot a.shard)]:List (Int×Int)) 1 rfl rfl eS;have cJ:=(bS.hI dg dH ka cu).n7;have f19:=cJ.k 0;have f20:=cJ.k 4;⟨.inr ⟨f19,f20⟩,?_⟩)))))⟩;obtain⟨g1,yd,dk,bt⟩:=cJ.C4 (i:=1) rfl;have f21:=cJ.gh 6 0;refine .ac rfl (.ahO yd underlying173 j8 rfl vj ND rfl rfl (f21) dh (by simp only[List.length_cons,List.length_nil];omega) (by unfold maxLen;simp only[List.length_cons,List.length_nil];omega) λv1 g2 ff b_ dn b7=>?_);have da:=(bt _ _ _ _ dn b_ (b7.imp id .inr)).n7;clear b7;have f22:=da.k 0;have f23:=da.k 4;refine⟨.inr ⟨f22,f23⟩,.gd 1 rfl (.z rfl (.fieldAddr xY rfl) ?_)⟩;have f24:=da.Ff (i:=1) rfl;obtain⟨bY,bZ,ef⟩:=f24.shape;subst ef;refine .ac rfl (.st xU f22 λfv dS pT=>?_);have dD:=(da.db 0 dS pT.c2).n7;refine⟨.inl rfl,.nil (.ae 2 rfl (pk.Ab (λi=>Nat.beq i 6) (λi=>Nat.beq i 3 || Nat.beq i 4 || Nat.beq i 5) 6 (λ_=>True) mixed λht eW=>have ek:=dD.ext eW;⟨trivial,?_⟩))⟩;refine .gd 2 rfl (.oi rfl (.fieldAddr xZ rfl) (have f25:=ek.k 0;.mP rfl (.e8 xV f25) (have f26:=ek.k 4;.mP rfl (.cB j8 rfl (λ_ e=>e▸f26.row) rfl) ?_)));have f27:=ek.k 3;refine .mP rfl (.cB ed rfl (λ_ e=>e▸f27.row) rfl) ?_;have f28:=ek.mp (i:=2) rfl;exact .ac rfl (.Ny a.pl a wW underlying174 rfl rfl rfl f28 λjm gQ FN x0=>have fh:=(ek.C0 (i:=2) rfl gQ x0).n7;⟨.inl rfl,.nil (.ae 4 rfl (aN func47 rfl rfl (have gR:=WV aa m';have eE:=(fh.ty (lB k0 172 2 (.slice bY ((q.map bb.pl)++[(Prod.mk a.slot a.shard)]).length bZ) ((gg q a).map bb.pl)) 1 rfl (λei bR=>(by rw[gR.2,List.map_append];exact bR))).n7;have et:=(eE.bx [3,4,5,6] 0 1 2).cU;have gu:=(et.ui 4 rfl (q:=(gg q a)) (by rw[gR.2];exact nu.add m')).cU;gu.rt 4 rfl (congrArg Value.bool gR.1.symm))))⟩)
 | some x =>
  refine .z rfl (.ahM (a:=a.pl) (val:=k_) wW underlying174 zeroValue35 rfl rfl (λ_ al=>al.2.2) (by rw[nu.at_];exact m')) (.gd 3 rfl (.ac rfl (.alloc ed λcH gN bu dw hc df=>have bO:=(bL.cS bu dw df).n6;have f8:=bO.k 0;have f9:=bO.k 4;have f10:=bO.mp (i:=2) rfl;⟨.inr ⟨f8,f9,f10⟩,(have f11:=bO.k 5;.ac rfl (.st ed f11 λc8 b2 e5=>?_))⟩)));have b5:=(bO.o0 (cs':=(ej x)) (i:=5) rfl b2 e5).n6;have f12:=b5.k 0;have f13:=b5.k 4;have f14:=b5.mp (i:=2) rfl;refine⟨.inr ⟨f12,f13,f14⟩,.gd 1 rfl (.nil (.go 6 rfl (have f15:=b5.k 5;.a7 sB aK f15 (have f16:=b5.k 3;.a7 sB aK f16 (.bg (.gt rfl rfl) (λdH=>?_) λdH=>?_)))))⟩
  . exact .ae 22 rfl (aN func47 rfl rfl (have gR:=NI m' aa;have bS:=(b5.ty (lB k0 172 2 nU ((gg q a).map bb.pl)) 1 rfl (λei bR=>(by rw[gR.2];exact bR))).n6;have ck:=(bS.bx [3,4,5] 0 1 2).bU;have cJ:=(ck.ui 3 rfl (q:=(gg q a)) DA).bU;cJ.rt 3 rfl (congrArg Value.bool gR.1.symm)))
  refine .go 1 rfl (.a7 sB aK f15 (.a7 sB aK f16 (.gk (.eq rfl rfl) (λfg=>?_) λfg=>?_)))
  . refine .go 1 rfl (.a7 xX aK f15 (.a7 xX aK f16 (.bg (.gt rfl rfl) (λhf=>?_) λhf=>?_)))
    . exact .ae 10 rfl (aN func47 rfl rfl (have gR:=NI m' aa;have bS:=(b5.ty (lB k0 172 2 nU ((gg q a).map bb.pl)) 1 rfl (λei bR=>(by rw[gR.2];exact bR))).n6;have ck:=(bS.bx [3,4,5] 0 1 2).bU;have cJ:=(ck.ui 3 rfl (q:=(gg q a)) DA).bU;cJ.rt 3 rfl (congrArg Value.bool gR.1.symm)))
    refine .go 9 rfl (.z (.not rfl) (.ae 6 rfl (pk.Ab (λi=>Nat.beq i 6) (λi=>Nat.beq i 3 || Nat.beq i 4 || Nat.beq i 5) 6 (λ_=>True) mixed λdA cC=>have bS:=b5.ext cC;⟨trivial,?_⟩)));refine .gd 2 rfl (.oi rfl (.fieldAddr xZ rfl) (have f17:=bS.k 0;.mP rfl (.e8 xV f17) (have f18:=bS.k 4;.mP rfl (.cB j8 rfl (λ_ e=>e▸f18.row) rfl) ?_)));have f19:=bS.k 3;refine .mP rfl (.cB ed rfl (λ_ e=>e▸f19.row) rfl) ?_;have f20:=bS.mp (i:=2) rfl;exact .ac rfl (.Ny a.pl a wW underlying174 rfl rfl rfl f20 λeM dg ka gA=>have ck:=(bS.C0 (i:=2) rfl dg gA).n6;⟨.inl rfl,.nil (.ae 4 rfl (aN func47 rfl rfl (have gR:=I8 aa m' aa;have cJ:=(ck.ty (lB k0 172 2 nU ((gg q a).map bb.pl)) 1 rfl (λei bR=>(by rw[gR.2,NF];exact bR))).n6;have da:=(cJ.bx [3,4,5] 0 1 2).bU;have dD:=(da.ui 3 rfl (q:=(gg q a)) (by rw[gR.2];exact nu.put m')).bU;dD.rt 3 rfl (congrArg Value.bool gR.1.symm))))⟩)
  refine .go 15 rfl (.z (.not rfl) (.ae 6 rfl (pk.Ab (λi=>Nat.beq i 6) (λi=>Nat.beq i 3 || Nat.beq i 4 || Nat.beq i 5) 6 (λ_=>True) mixed λdA cC=>have bS:=b5.ext cC;⟨trivial,?_⟩)));refine .gd 2 rfl (.oi rfl (.fieldAddr xZ rfl) (have f17:=bS.k 0;.mP rfl (.e8 xV f17) (have f18:=bS.k 4;.mP rfl (.cB j8 rfl (λ_ e=>e▸f18.row) rfl) ?_)));have f19:=bS.k 3;refine .mP rfl (.cB ed rfl (λ_ e=>e▸f19.row) rfl) ?_;have f20:=bS.mp (i:=2) rfl;exact .ac rfl (.Ny a.pl a wW underlying174 rfl rfl rfl f20 λeM dg ka gA=>have ck:=(bS.C0 (i:=2) rfl dg gA).n6;⟨.inl rfl,.nil (.ae 4 rfl (aN func47 rfl rfl (have gR:=I8 aa m' aa;have cJ:=(ck.ty (lB k0 172 2 nU ((gg q a).map bb.pl)) 1 rfl (λei bR=>(by rw[gR.2,NF];exact bR))).n6;have da:=(cJ.bx [3,4,5] 0 1 2).bU;have dD:=(da.ui 3 rfl (q:=(gg q a)) (by rw[gR.2];exact nu.put m')).bU;dD.rt 3 rfl (congrArg Value.bool gR.1.symm))))⟩)
theorem akr{w0:World}{F:Nat->Prop}{dc:Nat}{a:bb}{q:List bb}(bf:(j1 (R:=az) 176 172 dc (a::q)).p F w0)(bs:∀b,F b->b<w0.heap.size)(OM:q.length<=100000):
 bJ 50 #[ptr dc 0] w0 (an λaC ai=>aC=.tuple #[k_ a,.bool true]/\Mod F w0 ai/\∃bz,(j1 (R:=az) 176 172 dc q).p bz ai/\∀b,bz b->b<ai.heap.size/\(F b\/w0.heap.size<=b)):=by
 have dR:=au.hh (R:=az) bf (λb ab=>⟨bs b ab,id⟩) (λ_ h=>h.elim);have bw:au az F w0 w0 [j1 176 172 dc (a::q)]:=dR;refine bP func50 rfl ntmps50 rfl (.go 2 rfl (.ac (.alloc ed λai aL av aF cq aW=>?_)));have bc:=(bw.cS av aF aW).bM;obtain⟨h8,dz,dt,de⟩:=bc.eH 0;refine .go 6 rfl (.ac (.aH Jj rfl (J3 (w0:=ai) dz (λb ab=>(dt b ab).2)) ?_));rintro _ aZ ⟨rfl,aA⟩;have a1:=bc.ext aA;clear dz dt de;refine .lb (.eq rfl rfl) (by exact decide_eq_false (by simp only[List.length_cons];omega)) ?_;obtain⟨⟨nU,gJ,mB⟩,bd⟩:=a1.fB 0;obtain⟨nu,ba⟩:=bd.and (i:=0) rfl;change au az F w0 aZ [bh [aw dc [nU,.map (some gJ)] 176,lB k0 172 2 nU ((a::q).map bb.pl),jq lC k_ gJ mB],aw aL [ad,ad,ad,ad,ad,aD [],ad,ad,.bool false,ad,aD []] 35] at ba;change jr mB (a::q) at nu;have bm:=(ba.u 0 [1]).bU;have iv:((a::q).map bb.pl).length=q.length+1:=(by simp);refine .go 7 rfl (have f1:=bm.k 1;.a7 xY xU f1 ?_);have f2:=bm.Ff (i:=2) rfl;obtain⟨ax,bx,e',a8,bT,cu,cI⟩:=aq.jJ f2 underlying173 j8 vj (k:=.i64) (n:=0) (0) aa aU;refine .z (.indexAddr rfl rfl bT) (have Yh:ax=a.pl:=(by simpa using a8.symm);.z (.cB j8 rfl (λ_ e=>e▸cI) rfl) ?_);refine .ac (.alloc j8 λbp bI aM aX ec bQ=>have bC:=(bm.cS aM aX bQ).cU;have f3:=bC.k 4;.ac (.st j8 f3 λbX aY cP=>?_));have bL:=(bC.db 4 aY cP.c2).cU;refine .go 6 rfl (have f4:=bL.k 1;.a7 xY xU f4 ?_);obtain⟨g1,yd,dk,bt⟩:=bL.C4 (i:=2) rfl;obtain⟨v1,g2,cY,OO,b7⟩:=jB.from (P:=Tryz.prog) yd underlying173 j8 vj (k:=.i64) (n:=1) (1) rfl dh;refine .z (.qU rfl rfl rfl rfl cY) ?_;have bq:=(bt _ _ _ _ (Mod.refl _ _) OO (b7.elim .inl λx=>.inr (.inl x))).cU;clear b7;refine .go 1 rfl (.z (.fieldAddr xY rfl) ?_);have f5:=bq.Ff (i:=2) rfl;obtain⟨bY,bZ,ef⟩:=f5.shape;subst ef;have f6:=bq.k 1;refine .ac (.st xU f6 λcH bu df=>?_);have bO:=(bq.db 1 bu df.c2).cU;refine .ae 2 rfl (eT (λi=>Nat.beq i 6 || Nat.beq i 7) 7 (λao=>ds ao dc [(.slice bY (((a::q).map bb.pl).drop 1).length bZ),.map (some gJ)] 176/\ds ao bI [U ax.1,U ax.2] 172/\kP lC k_ ao gJ mB) mixed λc8 b2=>have b5:=bO.ext b2;have f7:=b5.k 1;have f8:=b5.k 4;have f9:=b5.mp (i:=3) rfl;⟨⟨f7,f8,f9⟩,?_⟩);refine .gd 2 rfl (.z rfl (.fieldAddr xZ rfl) (.z rfl (.ca xV rfl (λ_ al=>(al.1.cell 1 _ rfl))) ?_));refine .z rfl (.cB j8 rfl (λ_ al=>al.2.1.row) rfl) (.z rfl (.Nz (a:=ax) (val:=k_) wW underlying174 zeroValue35 rfl rfl (λ_ al=>al.2.2) (by rw[Yh];exact nu.head)) (.ac rfl (.alloc ed λdA cA cC br g_ e5=>?_)));have ck:=(b5.cS cC br e5).n6;have f12:=ck.k 1;have f13:=ck.k 4;have f14:=ck.mp (i:=3) rfl;refine⟨.inr ⟨f12,f13,f14⟩,(have f15:=ck.k 5;.ac rfl (.st ed f15 λeM dg gA=>?_))⟩;have cJ:=(ck.o0 (cs':=(ej a)) (i:=5) rfl dg gA).n6;refine⟨.inl rfl,.nil (.ae 1 rfl ?_)⟩;refine pk.Ab (λi=>Nat.beq i 5) (λi=>Nat.beq i 3 || Nat.beq i 4) 6 (λ_=>True) mixed λff dn=>have da:=cJ.ext dn;⟨trivial,?_⟩
 refine .gd 2 rfl (.oi rfl (.fieldAddr xZ rfl) (have f16:=da.k 1;.mP rfl (.e8 xV f16) ?_));have f17:=da.k 4;refine .mP rfl (.cB j8 rfl (λ_ e=>e▸f17.row) rfl) ?_;have f18:=da.mp (i:=3) rfl;refine .ac rfl (.WI ax wW underlying174 rfl rfl rfl f18 λfv dS vH pT=>have dD:=(da.C0 (i:=3) rfl dS pT).n6;⟨.inr trivial,.nil ?_⟩);have f19:=dD.k 5;refine .go 2 rfl (.z (.cB ed rfl (λ_ e=>e▸f19.row) rfl) ?_);have f20:=dD.k 0;refine .ac (.st ed f20 λht eW x0=>?_);have ek:=(dD.o0 (cs':=(ej a)) (i:=0) rfl eW x0).n6;have f21:=ek.k 0;exact .ae 2 rfl (MA func50 rfl rfl ed f21.row rfl rfl (have fh:=(ek.ty (lB k0 172 2 (.slice bY (((a::q).map bb.pl).drop 1).length bZ) (q.map bb.pl)) 2 rfl (λei bR=>by simpa using bR)).n6;have eE:=(fh.bx [0,4,5] 1 2 3).bU;have et:=(eE.ui 3 rfl (q:=q) (by rw[Yh];exact nu.pop)).bU;et.rt 3 rfl rfl))
theorem aks{w0:World}{F:Nat->Prop}{dc:Nat}(bf:(j1 (R:=az) 176 172 dc []).p F w0)(bs:∀b,F b->b<w0.heap.size):
 bJ 50 #[ptr dc 0] w0 (an λaC ai=>aC=.tuple #[k_ NC,.bool false]/\Ext w0 ai):=by
 have cT:=au.f_ w0;refine bP func50 rfl ntmps50 rfl (.go 2 rfl (.ac (.alloc ed λai aL av aF cq aW=>have a6:=(cT.cS av aF aW).cf;.go 6 rfl (.ac (.aH Jj rfl (J3 (w0:=ai) ((j1 (R:=az) 176 172 dc []).keep bf a6.mod (λ_ _ h=>h) (λ_ h=>h.elim)) (λb ab=>Nat.lt_of_lt_of_le (bs b ab) a6.mod.size)) ?_)))));rintro _ aZ ⟨rfl,aA⟩;have bc:=a6.ext aA;refine .sv (.eq rfl rfl) dC (.go 4 rfl (.z (.build (vs:=#[]) (v:=.agg #[ad,ad,ad,ad,ad,aD [],ad,ad,.bool false,ad,aD []]) rfl (λ_=>by kernel_rfl)) (have f1:=bc.k 0;.ac (.st ed f1 λbp aM bQ=>?_))));have a1:=(bc.db 0 aM bQ.wF).cf;have f2:=a1.k 0;exact .ae 2 rfl (MA func50 rfl rfl ed f2.row rfl rfl (an.mk ⟨rfl,a1.mod⟩))
theorem akt{w0:World}{F:Nat->Prop}{dc:Nat}{q:List bb}(bf:(j1 (R:=az) 176 172 dc q).p F w0)(bs:∀b,F b->b<w0.heap.size)(OM:q.length<=100000):
 bJ 49 #[ptr dc 0] w0 (an λaC ai=>(∃g,Acc ej 35 11 ai g aC q/\(g=0\/w0.heap.size<g))/\Ext w0 ai):=by
 obtain⟨⟨mO,iQ,m⟩,dM,fi,nP,wx,ako⟩:=bf;have tM:=(nP 0 _ rfl).1;obtain⟨g0,FX,nr⟩:=nP 1 _ rfl;have J4:=(nP 2 _ rfl).1;have wR:=FX.cj.cz (Nat.zero_le _) FX.lt;have cT:=au.f_ w0;have Dz:(q.map bb.pl).length=q.length:=List.length_map ..;change ds w0 dc [mO,.map (some iQ)] 176 at tM;change aq k0 w0 (cm w0) mO (q.map bb.pl) at wR;change kP lC k_ w0 iQ m at J4;change jr m q at dM;refine bP func49 rfl ntmps49 rfl (.go 8 rfl (.z (.l5 underlying93 rfl rfl) (.go 12 rfl (.z (.fieldAddr xY rfl) (have bT:=tM.row.sub 0 1 dm;.z (.dQ xU bT) (.z (.ct underlying173 (wR) rfl) (have a6:au az az w0 w0 [aP ej 35 11 (.slice none 0 0) []]:=cT.fR (Mod.refl _ _) Acc.nil (.inl rfl);.ae 3 rfl (dU (I:=λm E W=>∃(er:Value) (l:List bb) (i:Nat),E=[(0,ptr dc 0),(3,er),(11,mO),(12,U (((q.map bb.pl).length:Nat):Int)),(13,U (i:Int))]/\m=q.length-i/\au az az w0 W [aP ej 35 11 er l]/\(l=q.take i)/\(l.length=i)) ?_ ?_))))))))
 . refine⟨_,_,⟨(.slice none 0 0:Value),([]:List bb),(0:Nat),rfl,rfl,a6,dC,dC⟩,bj⟩
 . rintro _ _ ai ⟨er,l,i,rfl,rfl,bw,bl,mn⟩ b1;refine .go 2 rfl (.bg (.lt rfl rfl) (λaF=>?_) λaF=>?_)
   . refine .ae 2 rfl ?_;have f1:=bw.out wR (λ_ _ h=>h);obtain⟨ax,aQ,e',a8,cY,cu,cI⟩:=aq.fu f1 underlying173 j8 vj i aU;refine .go 6 rfl (.z (.indexAddr rfl rfl cY) ?_);obtain⟨a,aku,arZ,pd⟩:=dM.Cg a8;refine .z (.cB j8 rfl (λ_ e=>e▸cI) rfl) ?_;refine .ac (.alloc j8 λaZ bx av aJ cq aW=>have a1:=(bw.cS av aJ aW).bM;have f2:=a1.k 1;.ac (.st j8 f2 λbp aA bQ=>?_));have bd:=(a1.db 1 aA bQ.c2).bM;refine .ae 1 rfl (pk.Ab (λi=>Nat.beq i 7 || Nat.beq i 8) (λi=>Nat.beq i 4 || Nat.beq i 5 || Nat.beq i 6) 10 (λ_=>True) mixed λbX aM=>have ba:=bd.ext aM;⟨trivial,?_⟩);refine .gd 3 rfl (.oi rfl (.fieldAddr xZ rfl) (have f3:=tM.row.keep ba.mod (λh=>h);have e0:=f3.sub 1 1 dm;.mP rfl (.ca xV rfl (λ_ e=>e▸e0)) ?_));have f4:=ba.k 1;refine .mP rfl (.cB j8 rfl (λ_ e=>e▸f4.row) rfl) ?_;have f5:=J4.keep ba.mod (λh=>h);refine .mP rfl (.Nz (a:=ax) (val:=k_) wW underlying174 zeroValue35 rfl rfl (λ_ e=>e▸f5) pd) ?_;refine .ac rfl (.buildSlice [(.agg #[U a.slot,U a.query,U a.shard,U a.seq,U a.ga,aD a.text,U a.k,U a.batch,.bool a.first,U a.after.cp,aD a.after.word]:Value)] underlying39 ed rfl rfl rfl b0 λcH bI aY aX fF cP=>have dk:=aq.eA (enc:=ej) cP ([a]:List bb) 1 rfl rfl eS;have bN:=(ba.hI aY aX fF dk).cv;⟨.inr trivial,?_⟩);obtain⟨g2,f6,fa,bt⟩:=bN.b' 0;have f7:=bN.gh 2 0;refine .ac rfl (.append f6 underlying39 ed rfl pE AW rfl rfl (f7) ol fy λv1 g1 c8 b_ bu b7 hc=>have bC:=(bt _ _ _ _ bu b_ b7).cv;⟨.inr trivial,?_⟩);clear b7;exact .gd 1 rfl (.nil (.go 2 rfl (.z (.cg ((i+1:Nat):Int) rfl rfl aa) (have bL:=(bC.dB [0]).cf;.ae 2 rfl ((b1 _ _ _ ⟨(v1:Value),((l++[a]):List bb),(i+1:Nat),rfl,rfl,bL,(by first|exact ah_ bl aku|(exfalso;omega)),ap⟩ aa).sub bj)))))
   refine .ae 9 rfl (aN func49 rfl rfl ?_);obtain⟨eo,ay,aV⟩:=bw.ta (i:=0) rfl;exact an.mk ⟨⟨_,Acc.cast ay (by rw[bl,List.take_of_length_le aa]),aV⟩,bw.mod⟩
theorem akv{w0:World}{F:Nat->Prop}{rb kD oh dc iQ:Nat}{mO:Value}(slot query:Int){q:List bb}(p:Int×Int)(bf:(I7 (R:=az) 3 93 176 rb kD oh dc iQ mO slot query q).p F w0)(bs:∀b,F b->b<w0.heap.size)(bW:I6 q p):
 bJ 98 #[.agg #[U p.1,U p.2],ptr rb 0,ptr kD 0,ptr oh 0] w0 (an λaC ai=>aC=.bool (lO slot query q p).2/\Mod F w0 ai/\∃bz,(I7 (R:=az) 3 93 176 rb kD oh dc iQ mO slot query ((lO slot query q p).1)).p bz ai/\∀b,bz b->b<ai.heap.size/\(F b\/w0.heap.size<=b)):=by
 obtain⟨x,ag,J5,gG⟩:=bW;have qt:=ah7 (slot:=slot) (query:=query) ag J5 gG;have Di:p.1=x.slot:=(by rw[<-J5];rfl);have dR:=au.hh (R:=az) bf (λb ab=>⟨bs b ab,id⟩) (λ_ h=>h.elim);have bw:au az F w0 w0 [I7 3 93 176 rb kD oh dc iQ mO slot query q]:=dR;obtain⟨mB,a6⟩:=bw.fB 0;obtain⟨nu,bc⟩:=a6.and (i:=0) rfl;change au az F w0 w0 [bh [aw rb [U slot] 3,aw kD [ptr dc 0] 93,aw oh [U query] 3,aw dc [mO,.map (some iQ)] 176,jq lC k_ iQ mB]] at bc;change jr mB q at nu;have a1:=(bc.u 0 []).cU;have pd:gw mB p=some x:=(by rw[<-J5];exact nu.mem ag);refine bP func98 rfl ntmps98 rfl (.go 2 rfl (.ac (.box [U p.1,U p.2] rfl rfl λai aL av aF cq aW=>have ba:=(a1.cS av aF aW).n6;.ae 3 rfl (eT (λi=>false) 16 (λao=>Mod (b3 0) ai ao) mixed λaZ aA=>have bm:=ba.ext aA;have lk:Mod (b3 0) ai aZ:=Mod.gb aA;⟨lk,?_⟩))));refine .z rfl (.fieldAddr aim rfl) (have f1:=ba.k 5;.z rfl (.ca aK rfl (λ_ al=>(f1.cell 0 _ rfl).bF al (Nat.succ_ne_zero _))) (have f2:=ba.k 0;.z rfl (.ca aK rfl (λ_ al=>(f2.cell 0 _ rfl).bF al (Nat.succ_ne_zero _))) (.gk rfl (.eq rfl rfl) (λaJ=>?_) λaJ=>?_)))
 . refine .gd 1 rfl (have f3:=ba.k 1;.z rfl (.ca vp rfl (λ_ al=>(f3.cell 0 _ rfl).bF al (Nat.succ_ne_zero _))) (.gd 1 rfl (.z rfl (.fieldAddr xZ rfl) (have f4:=ba.k 3;.z rfl (.ca xV rfl (λ_ al=>(f4.cell 1 _ rfl).bF al (Nat.succ_ne_zero _))) (.z rfl (.cB j8 rfl (λ_ al=>f1.row.bF al (Nat.succ_ne_zero _)) rfl) (have f5:=ba.mp (i:=4) rfl;.z rfl (.Nz (a:=p) (val:=k_) wW underlying174 zeroValue35 rfl rfl (λ_ al=>kP.keep f5 al (Nat.succ_ne_zero _)) pd) (.z rfl (.field (v:=(U x.query:Value)) rfl (λ_=>by kernel_rfl)) (have f6:=ba.k 2;.z rfl (.ca aK rfl (λ_ al=>(f6.cell 0 _ rfl).bF al (Nat.succ_ne_zero _))) (.dY rfl (.le rfl rfl) λbx aX=>.gd 2 rfl (.nil ?_))))))))));refine .ae 5 rfl ?_;cases bx
   case true =>
    replace aX:=y' aX;refine .ae 1 rfl (pk.Ab (λi=>Nat.beq i 5) (λi=>Nat.beq i 0 || Nat.beq i 3 || Nat.beq i 4) 6 (λ_=>True) mixed λbp aM=>have bN:=bm.ext aM;⟨trivial,?_⟩);have f7:=bN.k 1;refine .mP rfl (.e8 vp f7) (.gd 1 rfl (.oi rfl (.fieldAddr xZ rfl) (have f8:=bN.k 3;.mP rfl (.e8 xV f8) (have f9:=bN.k 5;.mP rfl (.cB j8 rfl (λ_ e=>e▸f9.row) rfl) ?_))));have f10:=bN.mp (i:=4) rfl;refine .ac rfl (.WI p wW underlying174 rfl rfl rfl f10 λbX aY ec bQ=>have bC:=(bN.C0 (i:=4) rfl aY bQ).n6;⟨.inr trivial,.nil (.ae 5 rfl (aN func98 rfl rfl ?_))⟩);have FY:uh slot query x=true:=decide_eq_true aa;rw[FY] at qt;simp only[if_true,if_false,Bool.false_eq_true] at qt;have bL:=(bC.cA [5] 0 1 2 3 4).bM;have bq:=(bL.ty (ps (jr (ma mB p) ((lO slot query q p).1)) (bh [aw rb [U slot] 3,aw kD [ptr dc 0] 93,aw oh [U query] 3,aw dc [mO,.map (some iQ)] 176,jq lC k_ iQ (ma mB p)])) 1 rfl (λei bR=>⟨(by rw[qt];simp only[<-J5];exact nu.del (a:=x)),bR⟩)).bM;have bO:=(bq.fr (A:=λm:List ((Int×Int)×bb)=>ps (jr m ((lO slot query q p).1)) (bh [aw rb [U slot] 3,aw kD [ptr dc 0] 93,aw oh [U query] 3,aw dc [mO,.map (some iQ)] 176,jq lC k_ iQ m])) (ma mB p) (i:=1) rfl).bM;have b5:=(bO.dB [1]).cf;obtain⟨cF,cW,cX,cQ⟩:=b5.fin;exact an.mk ⟨(congrArg Value.bool (by rw[qt])),cF,cW,cX,cQ⟩
   replace aX:=za aX;refine .ae 7 rfl (aN func98 rfl rfl ?_);have FY:uh slot query x=false:=decide_eq_false aa;rw[FY] at qt;simp only[if_true,if_false,Bool.false_eq_true] at qt;have bN:=(bm.cA [5] 0 1 2 3 4).bM;have bC:=(bN.ty (ps (jr mB ((lO slot query q p).1)) (bh [aw rb [U slot] 3,aw kD [ptr dc 0] 93,aw oh [U query] 3,aw dc [mO,.map (some iQ)] 176,jq lC k_ iQ mB])) 1 rfl (λei bR=>⟨(by rw[qt];exact nu),bR⟩)).bM;have bL:=(bC.fr (A:=λm:List ((Int×Int)×bb)=>ps (jr m ((lO slot query q p).1)) (bh [aw rb [U slot] 3,aw kD [ptr dc 0] 93,aw oh [U query] 3,aw dc [mO,.map (some iQ)] 176,jq lC k_ iQ m])) (mB) (i:=1) rfl).bM;have bq:=(bL.dB [1]).cf;obtain⟨cF,cW,cX,cQ⟩:=bq.fin;exact an.mk ⟨(congrArg Value.bool (by rw[qt])),cF,cW,cX,cQ⟩
 refine .gd 12 rfl (.nil (.ae 12 rfl (aN func98 rfl rfl ?_)));have FY:uh slot query x=false:=decide_eq_false aa;rw[FY] at qt;simp only[if_true,if_false,Bool.false_eq_true] at qt;have bN:=(bm.cA [5] 0 1 2 3 4).bM;have bC:=(bN.ty (ps (jr mB ((lO slot query q p).1)) (bh [aw rb [U slot] 3,aw kD [ptr dc 0] 93,aw oh [U query] 3,aw dc [mO,.map (some iQ)] 176,jq lC k_ iQ mB])) 1 rfl (λei bR=>⟨(by rw[qt];exact nu),bR⟩)).bM;have bL:=(bC.fr (A:=λm:List ((Int×Int)×bb)=>ps (jr m ((lO slot query q p).1)) (bh [aw rb [U slot] 3,aw kD [ptr dc 0] 93,aw oh [U query] 3,aw dc [mO,.map (some iQ)] 176,jq lC k_ iQ m])) (mB) (i:=1) rfl).bM;have bq:=(bL.dB [1]).cf;obtain⟨cF,cW,cX,cQ⟩:=bq.fin;exact an.mk ⟨(congrArg Value.bool (by rw[qt])),cF,cW,cX,cQ⟩
theorem akw(rb kD oh dc iQ:Nat)(mO:Value)(slot query:Int):NH Tryz.prog 98 [] [ptr rb 0,ptr kD 0,ptr oh 0] lC (λq=>I7 (R:=az) 3 93 176 rb kD oh dc iQ mO slot query q) I6 (lO slot query):=⟨aiA,λs F w x bf bs bW=>akv slot query x bf bs bW⟩
theorem akx{w0:World}{F G:Nat->Prop}{b9:Type}{A:b9->dr az}{kO:FuncId}{first cap:List Value}{ok:b9->(Int×Int)->Prop}{f:b9->(Int×Int)->b9×Bool}{er:Value}{l:List (Int×Int)}(dG:b9)(aE:NH Tryz.prog kO first cap lC A ok f)(bf:(A dG).p F w0)(bs:∀b,F b->b<w0.heap.size)(bl:aq k0 w0 G er l)(cb:∀b,G b->¬ F b)(dE:∀b,G b->b<w0.heap.size)(bW:AX ok f dG l)(mn:l.length<=100000):
 bJ 141 #[er,.func (.func kO) first.toArray cap.toArray] w0 (an λaC ai=>Mod F w0 ai/\((aC=U (-1)/\oV f dG l=l/\∃bz,(A (kQ f dG l)).p bz ai/\∀b,bz b->b<ai.heap.size/\(F b\/w0.heap.size<=b))\/∃k x,aC=U ((k:Nat):Int)/\l[k]?=some x/\vl f dG l k/\(f (kQ f dG (l.take k)) x).2=true/\∃bz,(A (kQ f dG (l.take (k+1)))).p bz ai/\∀b,bz b->b<ai.heap.size/\(F b\/w0.heap.size<=b))):=by
 have dR:=au.hh (R:=az) bf (λb ab=>⟨bs b ab,id⟩) (λ_ h=>h.elim);have bw:au az F w0 w0 [A dG]:=dR;refine bP Tryz.func141 rfl Tryz.ntmps141 rfl (.go 8 rfl (.z (.ct Tryz.underlying173 (bl) rfl) (.ae 3 rfl (dU (I:=λm E W=>∃(k:Nat),E=[(0,er),(1,.func (.func kO) first.toArray cap.toArray),(7,U (((l.length:Nat):Int))),(8,U (((k:Nat):Int)))]/\m=l.length-k/\au az F w0 W [A (kQ f dG (l.take k))]/\(vl f dG l k)) ?_ ?_))))
 . refine⟨_,_,⟨(0:Nat),rfl,rfl,bw,(by exact vl.start f dG l)⟩,⟨rfl,rfl,rfl,rfl,trivial⟩⟩
 . rintro _ _ ai ⟨k,rfl,rfl,a6,FZ⟩ b1;refine .go 2 rfl (.bg (.lt rfl rfl) (λaF=>?_) λaF=>?_)
   . refine .ae 2 rfl ?_;have f1:=a6.out bl cb;obtain⟨ax,aQ,e',a8,bT,cu,cI⟩:=aq.fu f1 Tryz.underlying173 j8 vj k aU;refine .go 14 rfl (.z (.indexAddr rfl rfl bT) (.z (.cB j8 rfl (λ_ e=>e▸cI) rfl) ?_));obtain⟨h8,dz,dt,de⟩:=a6.eH 0;refine .ac (.call (first:=first) (cap:=cap) (vs:=[lC ax]) aE.cl rfl rfl (aE.call _ _ _ _ dz (λb ab=>(dt b ab).2) (bW.get a8)) ?_);rintro _ aZ ⟨rfl,av,fs,gX,eg⟩;have bc:=(de _ _ _ av gX eg).cf;clear dz dt de gX eg;generalize aJ:(f ((kQ f dG (l.take k))) ax).2=bx;replace aJ:=aJ.symm;refine .ae 1 rfl ?_;cases bx
     case true =>
      replace aJ:=aJ.symm;refine .ae 6 rfl (aN Tryz.func141 rfl rfl ?_);have a1:=(bc.ty (A (kQ f dG (l.take (k+1)))) 0 rfl (λei bR=>(by rw[I4 a8];exact bR))).cf;obtain⟨cF,cW,cX,cQ⟩:=a1.fin;exact an.mk ⟨cF,.inr ⟨k,_,rfl,a8,FZ,(by assumption),cW,cX,cQ⟩⟩
     replace aJ:=aJ.symm;have a1:=(bc.ty (A (kQ f dG (l.take (k+1)))) 0 rfl (λei bR=>(by rw[I4 a8];exact bR))).cf;exact .go 4 rfl (.z (.cg (((k+1:Nat):Int)) rfl rfl (by omega)) (.ae 2 rfl ((b1 _ _ _ ⟨(k+1:Nat),rfl,rfl,a1,(by first|exact FZ.next a8 (by assumption)|(exfalso;omega))⟩ (by omega)).sub ⟨rfl,rfl,rfl,rfl,trivial⟩)))
   refine .ae 8 rfl (aN Tryz.func141 rfl rfl ?_);have bc:=(a6.ty (A (kQ f dG l)) 0 rfl (λei bR=>(by rw[List.take_of_length_le (by omega)] at bR;exact bR))).cf;obtain⟨cF,cW,cX,cQ⟩:=bc.fin;exact an.mk ⟨cF,.inl ⟨rfl,FZ.all (by omega),cW,cX,cQ⟩⟩
theorem Yi{p:Prop}(h:p:=by first|exact wX.off (wX.at a8) bk|exact wX.on (wX.at a8) bk|(exfalso;omega)):p:=h
theorem aky{w0:World}{F:Nat->Prop}{b9:Type}{A:b9->dr az}{kO:FuncId}{first cap:List Value}{ok:b9->(Int×Int)->Prop}{f:b9->(Int×Int)->b9×Bool}{er:Value}{l:List (Int×Int)}(dG:b9)(aE:NH Tryz.prog kO first cap lC A ok f)(bf:(bh (R:=az) [A dG,lB k0 172 2 er l]).p F w0)(bs:∀b,F b->b<w0.heap.size)(bW:AX ok f dG l)(mn:l.length<=100000):
 bJ 97 #[er,.func (.func kO) first.toArray cap.toArray] w0 (an λaC ai=>Mod F w0 ai/\∃bz,(bh (R:=az) [A ((kQ f dG l)),lB k0 172 2 aC ((oV f dG l))]).p bz ai/\∀b,bz b->b<ai.heap.size/\(F b\/w0.heap.size<=b)):=by
 have dR:=au.hh (R:=az) bf (λb ab=>⟨bs b ab,id⟩) (λ_ h=>h.elim);have bw:au az F w0 w0 [bh [A dG,lB k0 172 2 er l]]:=dR;have a6:=(bw.u 0 []).bM;refine bP Tryz.func97 rfl Tryz.ntmps97 rfl ?_;obtain⟨h8,ar0,dz,akz,J6,dt,akA,de⟩:=a6.Ct (i:=0) (j:=1) rfl rfl (by decide);refine .go 8 rfl (.ac (.aH aiK rfl (akx (first:=first) (cap:=cap) dG aE dz (λb ab=>(dt b ab).2) (ahW akz) J6 akA bW mn) ?_));rintro ar1 ai ⟨av,bT⟩;rcases bT with ⟨rfl,mQ,akB,gz,OP⟩|⟨k,ar2,rfl,Bj,FZ,akC,akB,gz,OP⟩
 . skip
   have bc:au az F w0 ai [A (kQ f dG l),lB k0 172 2 er l]:=de _ _ _ av gz OP;refine .go 6 rfl (.dY (.eq rfl rfl) λaL aF=>?_);obtain rfl:aL=true:=aF.trans (by rfl);refine .ae 7 rfl (aN Tryz.func97 rfl rfl ?_);have a1:=(bc.ty (lB k0 172 2 er ((oV f dG l))) 1 rfl (λei bR=>(by rw[mQ];exact bR))).bM;have bd:=(a1.aQ [] 0 1).cf;obtain⟨cF,cW,cX,cQ⟩:=bd.fin;exact an.mk ⟨cF,cW,cX,cQ⟩
 . skip
   have bc:au az F w0 ai [A (kQ f dG (l.take (k+1))),lB k0 172 2 er l]:=de _ _ _ av gz OP;have ar3:=(List.getElem?_eq_some_iff.1 Bj).1;refine .go 6 rfl (.lb (.eq rfl rfl) (by exact decide_eq_false (by omega)) (.go 7 rfl ?_));refine .z (.cg (((k+1:Nat):Int)) rfl rfl (by omega)) (have bd:=(bc.dB [1,0]).bM;.ae 3 rfl (dU (I:=λm E W=>∃(i:Nat) (j:Nat) (cur:List (Int×Int)),E=[(0,er),(1,.func (.func kO) first.toArray cap.toArray),(5,U (((i:Nat):Int))),(6,U (((j:Nat):Int)))]/\m=l.length-j/\au az F w0 W [lB k0 172 2 er cur,A (kQ f dG (l.take j))]/\(su f dG l cur i j)/\(j<=l.length)) ?_ ?_))
   . refine⟨_,_,⟨(k:Nat),(k+1:Nat),(l:List (Int×Int)),rfl,rfl,bd,(by exact su.start FZ Bj akC),(by omega)⟩,⟨rfl,rfl,rfl,rfl,trivial⟩⟩
   . rintro _ _ aZ ⟨i,j,cur,rfl,rfl,a1,wX,JV⟩ b1;have hQ:=wX.len;have mX:=wX.Fh;have f1:=a1.Ff (i:=0) rfl;refine .go 5 rfl (.z (.ct Tryz.underlying173 (f1) rfl) (.bg (.lt rfl rfl) (λaJ=>?_) λaJ=>?_))
     . refine .ae 1 rfl ?_;obtain⟨ax,bx,e',a8,cY,cu,cI⟩:=aq.fu f1 Tryz.underlying173 j8 vj j aU;refine .go 8 rfl (.z (.indexAddr rfl rfl cY) (.z (.cB j8 rfl (λ_ e=>e▸cI) rfl) ?_));refine .ac (.alloc j8 λbp bI aA aX cq aW=>have bm:=(a1.cS aA aX aW).cv;have f2:=bm.k 2;.ac (.st j8 f2 λbX aM bQ=>?_));have bN:=(bm.db 2 aM bQ.c2).cv;have f3:=bN.k 2;refine .go 4 rfl (.z (.cB j8 rfl (λ_ e=>e▸f3.row) rfl) ?_);obtain⟨qd,iU,g',hv⟩:=bN.eH 1;refine .ac (.call (first:=first) (cap:=cap) (vs:=[lC ax]) aE.cl rfl rfl (aE.call _ _ _ _ iU (λb ab=>(g' b ab).2) (bW.get (wX.at a8))) ?_);rintro _ cH ⟨rfl,aY,fs,gX,eg⟩;have bC:=(hv _ _ _ aY gX eg).cv;clear iU g' hv gX eg;generalize br:(f ((kQ f dG (l.take j))) ax).2=cA;replace br:=br.symm;cases cA
       case true =>
        replace br:=br.symm;refine .z (.not rfl) (have bL:=(bC.ty (A (kQ f dG (l.take (j+1)))) 1 rfl (λei bR=>(by rw[I4 (wX.at a8)];exact bR))).cv;.go 6 rfl (.z (.cg (((j+1:Nat):Int)) rfl rfl (by omega)) ?_));have bq:=(bL.dB [0,1]).bM;exact .ae 2 rfl ((b1 _ _ _ ⟨(i:Nat),(j+1:Nat),(cur:List (Int×Int)),rfl,rfl,bq,Yi,(by first|omega|(exfalso;omega))⟩ (by omega)).sub ⟨rfl,rfl,rfl,rfl,trivial⟩)
       replace br:=br.symm;refine .z (.not rfl) (have f4:=bC.k 2;.go 6 rfl (.z (.cB j8 rfl (λ_ e=>e▸f4.row) rfl) ?_));obtain⟨g1,yd,dk,bt⟩:=bC.C4 (i:=0) rfl;obtain⟨dd,ar4,ar5,e0,akD,F0,ar6,akE⟩:=jB.at (P:=Tryz.prog) yd Tryz.underlying173 j8 vj (k:=.i64) (n:=((i:Nat):Int)) (i) rfl (by omega);refine .z (.indexAddr rfl rfl e0) (.ac (.ahU yd F0 akE vj ND ax j8 rfl rfl rfl λc8 bu fF b_=>have bL:=(bt _ _ _ _ bu b_ (.inl rfl)).cv;.go 3 rfl ?_));refine .z (.cg (((i+1:Nat):Int)) rfl rfl (by omega)) (have bq:=(bL.ty (A (kQ f dG (l.take (j+1)))) 1 rfl (λei bR=>(by rw[I4 (wX.at a8)];exact bR))).cv;.go 5 rfl (.z (.cg (((j+1:Nat):Int)) rfl rfl (by omega)) ?_));have bO:=(bq.dB [0,1]).bM;exact .ae 2 rfl ((b1 _ _ _ ⟨(i+1:Nat),(j+1:Nat),((cur.set i ax):List (Int×Int)),rfl,rfl,bO,Yi,(by first|omega|(exfalso;omega))⟩ (by omega)).sub ⟨rfl,rfl,rfl,rfl,trivial⟩)
     refine .ae 1 rfl ?_;obtain⟨g1,yd,cu,bt⟩:=a1.C4 (i:=0) rfl;obtain⟨v1,g2,cY,OO,b7⟩:=jB.from (P:=Tryz.prog) yd Tryz.underlying173 j8 vj (k:=.i64) (n:=((i:Nat):Int)) (i) rfl (by omega);refine .go 6 rfl (.z (.qU rfl rfl rfl rfl cY) ?_);clear OO b7;refine .ac (.ahV yd Tryz.underlying173 j8 vj ND (by decide) (k:=.i64) (n:=((i:Nat):Int)) (i:=i) rfl (by omega) cY ((0,0):Int×Int) Tryz.zeroValue172 rfl rfl λbp aA cq b_=>?_);have ba:=(bt _ _ _ _ aA b_ (.inl rfl)).bM;obtain⟨g3,akF,dk,cD⟩:=ba.C4 (i:=0) rfl;obtain⟨v2,e0,akG⟩:=jB.upto (P:=Tryz.prog) akF Tryz.underlying173 j8 vj (k:=.i64) (n:=((i:Nat):Int)) (i) rfl (by simp only[List.length_append,List.length_take,List.length_replicate];omega);refine .go 5 rfl (.z (.qU rfl rfl rfl rfl e0) (have bm:=(cD _ _ _ _ (Mod.refl _ _) akG (.inl rfl)).bM;.ae 2 rfl ?_));refine aN Tryz.func97 rfl rfl ?_;have bN:=(bm.ty (A (kQ f dG l)) 1 rfl (λei bR=>(by rw[List.take_of_length_le (by omega)] at bR;exact bR))).bM;have akH:((cur.take i++List.replicate (cur.length-i) ((0,0):Int×Int)).take i)=oV f dG l:=(by rw[List.take_append_of_le_length (by rw[List.length_take];omega),List.take_take,Nat.min_self];exact wX.fin (by omega));have bC:=(bN.ty (lB k0 172 2 v2 ((oV f dG l))) 0 rfl (λei bR=>(by rw[<-akH];exact bR))).bM;have bL:=(bC.aQ [] 1 0).cf;obtain⟨cF,cW,cX,cQ⟩:=bL.fin;exact an.mk ⟨cF,cW,cX,cQ⟩
theorem akI{w0:World}{F:Nat->Prop}{dc:Nat}{q:List bb}(slot query:Int)(bf:(j1 (R:=az) 176 172 dc q).p F w0)(bs:∀b,F b->b<w0.heap.size)(OM:q.length<=100000):
 bJ 48 #[ptr dc 0,U slot,U query] w0 (an λaC ai=>aC=U ((q.length:Int)-((la q slot query).length:Int))/\Mod F w0 ai/\∃bz,(j1 (R:=az) 176 172 dc (la q slot query)).p bz ai/\∀b,bz b->b<ai.heap.size/\(F b\/w0.heap.size<=b)):=by
 have dR:=au.hh (R:=az) bf (λb ab=>⟨bs b ab,id⟩) (λ_ h=>h.elim);have bw:au az F w0 w0 [j1 176 172 dc q]:=dR;have hW:=ah9 q slot query;refine bP func48 rfl ntmps48 rfl (.go 2 rfl (.ac (.box [ptr dc 0] rfl rfl λai aL av aF cq aW=>have bc:=(bw.cS av aF aW).bM;.ac (.box [U slot] rfl rfl λaZ aQ aA aJ ec bQ=>have bd:=(bc.cS aA aJ bQ).cv;.ac (.box [U query] rfl rfl λbp bx aM aX fF cP=>have bm:=(bd.cS aM aX cP).bU;have f1:=bm.k 1;.go 4 rfl (.z (.e8 vp f1) ?_))))));obtain⟨h8,dz,dt,de⟩:=bm.eH 0;refine .ac (.aH Jj rfl (J3 (w0:=bp) dz (λb ab=>(dt b ab).2)) ?_);rintro _ bX ⟨rfl,aY⟩;have bN:=bm.ext aY;clear dz dt de;refine .go 6 rfl (.gk (.eq rfl rfl) (λbr=>?_) λbr=>?_)
 . refine .ae 6 rfl (aN func48 rfl rfl ?_);have bC:=(bN.dB [0]).cf;have MX:q=[]:=List.eq_nil_of_length_eq_zero aa;subst MX;obtain⟨cF,cW,cX,cQ⟩:=bC.fin;exact an.mk ⟨rfl,cF,cW,cX,cQ⟩
 refine .ae 1 rfl ?_;obtain⟨⟨nU,gJ,mB⟩,bC⟩:=bN.fB 0;obtain⟨nu,bL⟩:=bC.and (i:=0) rfl;change au az F w0 bX [bh [aw dc [nU,.map (some gJ)] 176,lB k0 172 2 nU (q.map bb.pl),jq lC k_ gJ mB],aw aL [ptr dc 0] 93,aw aQ [U slot] 3,aw bx [U query] 3] at bL;change jr mB q at nu;have bq:=(bL.u 0 [1,2,3]).n6;refine .ae 3 rfl (eT (λi=>Nat.beq i 6 || Nat.beq i 9) 9 (λao=>ds ao aL [ptr dc 0] 93/\ds ao dc [nU,.map (some gJ)] 176) mixed λcH bu=>have bO:=bq.ext bu;have f2:=bO.k 0;have f3:=bO.k 3;⟨⟨f2,f3⟩,?_⟩);refine .z rfl (.ca vp rfl (λ_ al=>(al.1.cell 0 _ rfl))) (.z rfl (.ca vp rfl (λ_ al=>(al.1.cell 0 _ rfl))) (.gd 1 rfl (.z rfl (.fieldAddr xY rfl) (.z rfl (.ca xU rfl (λ_ al=>(al.2.cell 0 _ rfl))) (.z rfl (.makeFunc (first:=[]) (cap:=[ptr aQ 0,ptr aL 0,ptr bx 0]) rfl rfl) ?_)))));have b5:=(bO.cA [4] 1 0 2 3 5).bM;have bS:=(b5.ty (ps (jr mB q) (bh [aw aQ [U slot] 3,aw aL [ptr dc 0] 93,aw bx [U query] 3,aw dc [nU,.map (some gJ)] 176,jq lC k_ gJ mB])) 1 rfl (λei bR=>⟨nu,bR⟩)).bM;have ck:=(bS.fr (A:=λm:List ((Int×Int)×bb)=>ps (jr m q) (bh [aw aQ [U slot] 3,aw aL [ptr dc 0] 93,aw bx [U query] 3,aw dc [nU,.map (some gJ)] 176,jq lC k_ gJ m])) (mB) (i:=1) rfl).bM;have cJ:=(ck.aQ [] 1 0).cf;have fW:=NG slot query q [] (by simpa using nu.vk) dh;simp only[List.nil_append] at fW;obtain⟨qd,iU,g',hv⟩:=cJ.eH 0;refine .ac rfl (.aH aiz rfl (aky (first:=[]) (cap:=[ptr aQ 0,ptr aL 0,ptr bx 0]) q (akw aQ aL bx dc gJ nU slot query) iU (λb ab=>(g' b ab).2) fW.1 (by rw[List.length_map];omega)) ?_);rintro J7 c8 ⟨b2,fs,fm,eg⟩;rw[fW.2.1,fW.2.2] at fm;have da:=(hv _ _ _ b2 fm eg).cf;clear iU g' hv eg;have dD:=(da.u 0 []).bM;obtain⟨Yj,ek⟩:=dD.fB 0;obtain⟨zq,fh⟩:=ek.and (i:=0) rfl;change au az F w0 c8 [bh [aw aQ [U slot] 3,aw aL [ptr dc 0] 93,aw bx [U query] 3,aw dc [nU,.map (some gJ)] 176,jq lC k_ gJ Yj],lB k0 172 2 J7 ((la q slot query).map bb.pl)] at fh;change jr Yj (la q slot query) at zq;have eE:=(fh.u 0 [1]).n6;have f6:=eE.k 2;have f7:=eE.k 4;refine⟨.inr ⟨f6,f7⟩,.gd 1 rfl (.z rfl (.fieldAddr xY rfl) ?_)⟩;have f8:=eE.Ff (i:=0) rfl;obtain⟨bY,bZ,ef⟩:=f8.shape;subst ef;refine .ac rfl (.st xU f7 λdA cC df=>?_);have et:=(eE.db 4 cC df.c2).n6;refine⟨.inl rfl,.nil (have gu:=(et.bx [1,2,3] 4 0 5).bU;have fw:=(gu.ui 3 rfl (q:=(la q slot query)) zq).bU;have f9:=fw.k 1;.go 3 rfl (.z (.e8 vp f9) ?_))⟩;obtain⟨Bg,pR,oo,pS⟩:=fw.eH 3;refine .ac (.aH Jj rfl (J3 (w0:=dA) pR (λb ab=>(oo b ab).2)) ?_);rintro _ eM ⟨rfl,dg⟩;have gO:=fw.ext dg;clear pR oo pS;refine .z (.h3 ((q.length:Int)-(((la q slot query).length:Nat):Int)) rfl rfl aa) (.ae 2 rfl (aN func48 rfl rfl ?_));have gP:=(gO.dB [3]).cf;obtain⟨cF,cW,cX,cQ⟩:=gP.fin;exact an.mk ⟨(cR aa),cF,cW,cX,cQ⟩
end Go.Proofs
namespace Go.Proofs
open Tryz
open Go.aG Go.ak
theorem OQ{p:Prop}(h:p:=by first|exact WY a8 aa|exact WZ fX aa|(exfalso;omega)):p:=h
theorem Yk{w0:World}{Bk:Value}{ns:List Int}(DB:aq aG.encI w0 (cm w0) Bk ns):
 bJ 82 #[Bk] w0 (an λaC ai=>(∃cr:Bool,cr=(vm ns)/\aC=.bool cr)/\Ext w0 ai):=by
 have akJ:=DB.le;have cT:=au.f_ w0;refine bP func82 rfl ntmps82 rfl (.go 8 rfl (.z (.ct underlying57 (DB) rfl) (.ae 3 rfl (dU (I:=λm E W=>∃(i:Nat),E=[(5,Bk),(6,U (ns.length:Int)),(7,U (i:Int))]/\m=ns.length-i/\au az az w0 W []/\(∀z∈ns.take i,0<=z/\z<=2147483647)) ?_ ?_))))
 . refine⟨_,_,⟨(0:Nat),rfl,rfl,cT,DC⟩,bj⟩
 . rintro _ _ ai ⟨i,rfl,rfl,bw,fX⟩ b1;refine .go 2 rfl (.bg (.lt rfl rfl) (λaF=>?_) λaF=>?_)
   . refine .ae 2 rfl ?_;have f1:=bw.out DB (λ_ _ h=>h);obtain⟨ax,aQ,e',a8,bT,cu,cI⟩:=aq.fu f1 underlying57 aK aG.gF i aU;refine .go 6 rfl (.z (.indexAddr rfl rfl bT) (.z (.dQ aK cI) (.go 5 rfl (.bg (.lt rfl rfl) (λaJ=>?_) λaJ=>?_))))
     . exact .ae 10 rfl (aN func82 rfl rfl (an.mk ⟨⟨_,OQ,rfl⟩,bw.mod⟩))
     refine .go 2 rfl (.bg (.gt rfl rfl) (λaX=>?_) λaX=>?_)
     . exact .ae 7 rfl (aN func82 rfl rfl (an.mk ⟨⟨_,OQ,rfl⟩,bw.mod⟩))
     exact .go 6 rfl (.z (.cg ((i+1:Nat):Int) rfl rfl aa) (.ae 2 rfl ((b1 _ _ _ ⟨(i+1:Nat),rfl,rfl,bw,(by first|exact W0 fX a8 aa|(exfalso;omega))⟩ aa).sub bj)))
   exact .ae 8 rfl (aN func82 rfl rfl (an.mk ⟨⟨_,OQ,rfl⟩,bw.mod⟩))
theorem OR{p:Prop}(h:p:=by first|exact W1 aa|exact W2 aa bk|(exfalso;omega)):p:=h
theorem akK{w0:World}{x:b4}(J8:x.word.length<=1000000):
 bJ 125 #[.agg #[U x.cp,aD x.word]] w0 (an λaC ai=>(∃cr:Bool,cr=(y9 x)/\aC=.bool cr)/\Ext w0 ai):=by
 have cT:=au.f_ w0;refine bP func125 rfl ntmps125 rfl (.go 2 rfl (.ac (.box [U x.cp,aD x.word] rfl rfl λai aL av aF cq aW=>have a6:=(cT.cS av aF aW).cf;.go 4 rfl (have f1:=a6.k 0;.a7 xW aK f1 (.bg (.ge rfl rfl) (λaJ=>?_) λaJ=>?_)))))
 . refine .go 1 rfl (.a7 xW aK f1 (.bg (.le rfl rfl) (λaX=>?_) λaX=>?_))
   . refine .go 2 rfl (.a7 A0 dI f1 (.ac (.aH NR rfl (N1 (w0:=ai)  x.word aU) ?_)));rintro _ aZ ⟨⟨bI,br,rfl⟩,aA⟩;have bc:=a6.ext aA;exact .ae 3 rfl (aN func125 rfl rfl (an.mk ⟨⟨_,OR,rfl⟩,bc.mod⟩))
   exact .ae 8 rfl (aN func125 rfl rfl (an.mk ⟨⟨_,OR,rfl⟩,a6.mod⟩))
 exact .ae 12 rfl (aN func125 rfl rfl (an.mk ⟨⟨_,OR,rfl⟩,a6.mod⟩))
theorem J9{p:Prop}(h:p:=by first|exact aia aa|exact ah' bk aa|(exfalso;omega)):p:=h
theorem Yl{w0:World}(slot:Int)(shard:Int)(ar7:b6 slot)(ze:b6 shard):
 bJ 85 #[U slot,U shard] w0 (an λaC ai=>(∃cr:Bool,cr=(tk slot shard)/\aC=.bool cr)/\Ext w0 ai):=by
 have cT:=au.f_ w0;refine bP func85 rfl ntmps85 rfl (.go 7 rfl (.bg (.ge rfl rfl) (λaF=>?_) λaF=>?_))
 . refine .go 2 rfl (.bg (.lt rfl rfl) (λaJ=>?_) λaJ=>?_)
   . refine .go 3 rfl (.bg (.ge rfl rfl) (λaX=>?_) λaX=>?_)
     . exact .go 3 rfl (.dY (.lt rfl rfl) λbI br=>.ae 3 rfl (aN func85 rfl rfl (an.mk ⟨⟨_,J9,rfl⟩,cT.mod⟩)))
     exact .ae 7 rfl (aN func85 rfl rfl (an.mk ⟨⟨_,J9,rfl⟩,cT.mod⟩))
   exact .ae 11 rfl (aN func85 rfl rfl (an.mk ⟨⟨_,J9,rfl⟩,cT.mod⟩))
 exact .ae 14 rfl (aN func85 rfl rfl (an.mk ⟨⟨_,J9,rfl⟩,cT.mod⟩))
theorem rm{p:Prop}(h:p:=by first|exact aib bk|exact aic bk|exact aid bk|exact aie bk|exact aif aa|exact aih bk bk bk bk aa bk|(exfalso;omega)):p:=h
theorem J_{p:Prop}(h:p:=by assumption):p:=h
theorem akL{w0:World}{m:bb}(wY:bb.Ok m)(F1:m.text.length<=1000000)(wZ:m.after.word.length<=1000000):
 bJ 83 #[.agg #[U m.slot,U m.query,U m.shard,U m.seq,U m.ga,aD m.text,U m.k,U m.batch,.bool m.first,U m.after.cp,aD m.after.word]] w0 (an λaC ai=>(∃cr:Bool,cr=(nN m)/\aC=.bool cr)/\Ext w0 ai):=by
 have yc:=wY.slot;have ON:=wY.shard;have akM:=wY.k;have akN:=wY.batch;have cT:=au.f_ w0;refine bP func83 rfl ntmps83 rfl (.go 2 rfl (.ac (.box (ej m) rfl rfl λai aL av aF cq aW=>?_)));have a6:=(cT.cS av aF aW).cf;refine .go 4 rfl (.z (.fieldAddr A4 rfl) (have f1:=a6.k 0;.z (.cB gy rfl (λ_ e=>e▸(f1.part 9 2 dm)) rfl) ?_));refine .ac (.aH aiF rfl (akK (w0:=ai) (x:=m.after)  aU) ?_);rintro _ aZ ⟨⟨aQ,aJ,rfl⟩,aA⟩;have bc:=a6.ext aA;refine .go 5 rfl (have f2:=bc.k 0;.a7 Jg fe f2 ?_);generalize aX:m.first=OS;replace aX:=aX.symm;refine .ae 1 rfl ?_;cases OS
 case true =>
  replace aX:=aX.symm;refine .go 2 rfl (.z (.fieldAddr A4 rfl) (.z (.cB gy rfl (λ_ e=>e▸(f2.part 9 2 dm)) rfl) ?_));refine .z (.build (vs:=#[]) (v:=.agg #[ad,aD []]) rfl (λ_=>by kernel_rfl)) (.dY (.Co c6 (NP m.after (b4.mk 0 [])) rfl rfl) λbx br=>have cE:bx=wE m:=(by first|exact NJ J_ br|exact NK J_ br);.go 6 rfl ?_);cases bx
  case true =>
   replace cE:=cE.symm;refine .a7 tm aK f2 (.a7 qE aK f2 (.ac (.aH Xp rfl (Yl (w0:=aZ)  (m.slot) (m.shard) cN cN) ?_)));rintro _ bp ⟨⟨bI,cw,rfl⟩,aM⟩;have a1:=bc.ext aM;refine .go 2 rfl ?_;cases bI
   case true =>
    replace cw:=cw.symm;have f3:=a1.k 0;refine .a7 sB aK f3 (.a7 xX aK f3 (.a7 A1 aK f3 ?_));refine .ac (.buildSlice [(U m.query:Value),(U m.seq:Value),(U m.ga:Value)] underlying57 aK rfl rfl rfl b0 λbX cA aY dw ec bQ=>have cu:=aq.eA (enc:=aG.encI) bQ ([m.query,m.seq,m.ga]:List Int) 3 rfl rfl eS;have ba:=(a1.hI aY dw ec cu).bM;have f4:=ba.gh 1 0;.ac (.aH Xo rfl (Yk (w0:=bX) (ns:=[m.query,m.seq,m.ga])  f4) ?_));rintro _ cH ⟨⟨dd,dH,rfl⟩,bu⟩;have bm:=ba.ext bu;refine .go 2 rfl ?_;cases dd
    case true =>
     replace dH:=dH.symm;have f5:=bm.k 0;refine .a7 C9 dI f5 (.ac (.aH NU rfl (N2 (w0:=cH)  m.text aU) ?_));rintro _ c8 ⟨⟨gN,fg,rfl⟩,b2⟩;have bN:=bm.ext b2;refine .go 2 rfl ?_;cases gN
     case true =>
      replace fg:=fg.symm;have f6:=bN.k 0;refine .a7 A2 aK f6 (.bg (.ge rfl rfl) (λhf=>?_) λhf=>?_)
      . refine .go 2 rfl (.a7 A2 aK f6 (.bg (.le rfl rfl) (λom=>?_) λom=>?_))
        . refine .go 2 rfl (.a7 A3 aK f6 (.bg (.ge rfl rfl) (λpH=>?_) λpH=>?_))
          . refine .go 2 rfl (.a7 A3 aK f6 (.dY (.le rfl rfl) λpf N8=>?_));exact .ae 3 rfl (aN func83 rfl rfl (an.mk ⟨⟨_,rm,rfl⟩,bN.mod⟩))
          exact .ae 8 rfl (aN func83 rfl rfl (an.mk ⟨⟨_,rm,rfl⟩,bN.mod⟩))
        exact .ae 13 rfl (aN func83 rfl rfl (an.mk ⟨⟨_,rm,rfl⟩,bN.mod⟩))
      exact .ae 18 rfl (aN func83 rfl rfl (an.mk ⟨⟨_,rm,rfl⟩,bN.mod⟩))
     replace fg:=fg.symm;exact .ae 21 rfl (aN func83 rfl rfl (an.mk ⟨⟨_,rm,rfl⟩,bN.mod⟩))
    replace dH:=dH.symm;exact .ae 26 rfl (aN func83 rfl rfl (an.mk ⟨⟨_,rm,rfl⟩,bm.mod⟩))
   replace cw:=cw.symm;exact .ae 36 rfl (aN func83 rfl rfl (an.mk ⟨⟨_,rm,rfl⟩,a1.mod⟩))
  replace cE:=cE.symm;exact .ae 43 rfl (aN func83 rfl rfl (an.mk ⟨⟨_,rm,rfl⟩,bc.mod⟩))
 replace aX:=aX.symm;have br:aQ=wE m:=(by first|exact NJ J_ aJ|exact NK J_ aJ);refine .go 6 rfl ?_;cases aQ
 case true =>
  replace br:=br.symm;refine .a7 tm aK f2 (.a7 qE aK f2 (.ac (.aH Xp rfl (Yl (w0:=aZ)  (m.slot) (m.shard) cN cN) ?_)));rintro _ bp ⟨⟨bx,cE,rfl⟩,aM⟩;have a1:=bc.ext aM;refine .go 2 rfl ?_;cases bx
  case true =>
   replace cE:=cE.symm;have f3:=a1.k 0;refine .a7 sB aK f3 (.a7 xX aK f3 (.a7 A1 aK f3 ?_));refine .ac (.buildSlice [(U m.query:Value),(U m.seq:Value),(U m.ga:Value)] underlying57 aK rfl rfl rfl b0 λbX bI aY cw ec bQ=>have cu:=aq.eA (enc:=aG.encI) bQ ([m.query,m.seq,m.ga]:List Int) 3 rfl rfl eS;have ba:=(a1.hI aY cw ec cu).bM;have f4:=ba.gh 1 0;.ac (.aH Xo rfl (Yk (w0:=bX) (ns:=[m.query,m.seq,m.ga])  f4) ?_));rintro _ cH ⟨⟨cA,dw,rfl⟩,bu⟩;have bm:=ba.ext bu;refine .go 2 rfl ?_;cases cA
   case true =>
    replace dw:=dw.symm;have f5:=bm.k 0;refine .a7 C9 dI f5 (.ac (.aH NU rfl (N2 (w0:=cH)  m.text aU) ?_));rintro _ c8 ⟨⟨dd,dH,rfl⟩,b2⟩;have bN:=bm.ext b2;refine .go 2 rfl ?_;cases dd
    case true =>
     replace dH:=dH.symm;have f6:=bN.k 0;refine .a7 A2 aK f6 (.bg (.ge rfl rfl) (λfg=>?_) λfg=>?_)
     . refine .go 2 rfl (.a7 A2 aK f6 (.bg (.le rfl rfl) (λhf=>?_) λhf=>?_))
       . refine .go 2 rfl (.a7 A3 aK f6 (.bg (.ge rfl rfl) (λom=>?_) λom=>?_))
         . refine .go 2 rfl (.a7 A3 aK f6 (.dY (.le rfl rfl) λlH pH=>?_));exact .ae 3 rfl (aN func83 rfl rfl (an.mk ⟨⟨_,rm,rfl⟩,bN.mod⟩))
         exact .ae 8 rfl (aN func83 rfl rfl (an.mk ⟨⟨_,rm,rfl⟩,bN.mod⟩))
       exact .ae 13 rfl (aN func83 rfl rfl (an.mk ⟨⟨_,rm,rfl⟩,bN.mod⟩))
     exact .ae 18 rfl (aN func83 rfl rfl (an.mk ⟨⟨_,rm,rfl⟩,bN.mod⟩))
    replace dH:=dH.symm;exact .ae 21 rfl (aN func83 rfl rfl (an.mk ⟨⟨_,rm,rfl⟩,bN.mod⟩))
   replace dw:=dw.symm;exact .ae 26 rfl (aN func83 rfl rfl (an.mk ⟨⟨_,rm,rfl⟩,bm.mod⟩))
  replace cE:=cE.symm;exact .ae 36 rfl (aN func83 rfl rfl (an.mk ⟨⟨_,rm,rfl⟩,a1.mod⟩))
 replace br:=br.symm;exact .ae 43 rfl (aN func83 rfl rfl (an.mk ⟨⟨_,rm,rfl⟩,bc.mod⟩))
end Go.Proofs
namespace Go.Proofs
open Tryz
open Go.aG Go.ak
theorem OT{w0:World}(k:Int)(ye:b6 k)(hk:0<=k/\k<=4):
 bJ 177 #[U k] w0 (an λaC ai=>(∃cr:Bool,cr=true/\aC=.bool cr)/\Ext w0 ai):=by
 have bB:=eD w0;exact bP func177 rfl ntmps177 rfl (.go 7 rfl (.sv (.ge rfl rfl) (by exact decide_eq_true aa) (.go 2 rfl (.sv (.le rfl rfl) (by exact decide_eq_true aa) (.ae 3 rfl (aN func177 rfl rfl (an.mk ⟨⟨_,dC,rfl⟩,bB⟩)))))))
theorem hn{p:Prop}(h:p:=by omega):p:=h
theorem F2{p:Prop}(h:p:=by first|exact zq.trans (ags a8 aa)|(rw[OU];exact agv a8 aa)|(exfalso;omega)):p:=h
theorem DD{p:Prop}(h:p:=by first|omega|(exfalso;omega)):p:=h
theorem Ym{w0:World}{mg:Value}{q:List Int}(k:Int){ku:Value}{s:List Pos}(Bl:aq iK w0 (cm w0) mg q)(ye:b6 k)(oj:aq lz w0 (cm w0) ku s)(hk:0<=k/\k<=4)(dM:q.length<=1000)(hW:s.length<=1000):
 bJ 178 #[mg,U k,ku] w0 (an λaC ai=>(∃dp,Acc aG.encI 3 1 ai dp aC (gq q.length (dX q.length k s))/\(dp=0\/w0.heap.size<dp))/\Ext w0 ai):=by
 have bB:=eD w0;refine bP func178 rfl ntmps178 rfl (.go 7 rfl (.z (.ct underlying179 (Bl) rfl) ?_));refine .z (.cg ((q.length+1:Nat):Int) rfl rfl hn) (.ac (.makeSlice (enc:=aG.encI) (q.length+1) (0:Int) underlying57 aK b0 rfl aG.gF rfl rfl hn hn hn eS λv1 g1 ai av b7 cq b_=>have f1:=Bl.ext av;have f2:=oj.ext av;have bE:=bB.ext av;have bT:(List.replicate (q.length+1) (0:Int)).length=q.length+1:=List.length_replicate;.go 6 rfl ?_));refine .z (.ct underlying57 (b_.cj) rfl) (.ae 3 rfl (dU (I:=λm E W=>∃(i:Nat) (row:List Int),E=[(0,mg),(1,U k),(2,ku),(7,v1),(17,U (((List.replicate (q.length+1) (0:Int)).length:Nat):Int)),(18,U (i:Int))]/\m=q.length+1-i/\Ext w0 W/\ai.heap.size<=W.heap.size/\aq iK W (cm w0) mg q/\aq lz W (cm w0) ku s/\Acc aG.encI 3 1 W g1 v1 row/\(row=gq q.length λj=>if j<i then k+1 else 0)/\(row.length=q.length+1)) ?_ ?_))
 . refine⟨_,_,⟨(0:Nat),((List.replicate (q.length+1) (0:Int)):List Int),rfl,rfl,bE,Nat.le_refl _,f1,f2,b_,(by exact ago _ _),dh⟩,bj⟩
 . rintro _ _ aZ ⟨i,row,rfl,rfl,bG,i',f3,f4,f5,rL,oJ⟩ b1;refine .go 2 rfl (.bg (.lt rfl rfl) (λaF=>?_) λaF=>?_)
   . refine .go 15 rfl (.z (.cg (k+1) rfl rfl aa) ?_);obtain⟨cY,ax,a8⟩:=Acc.at f5 underlying57 aK (k:=.i64) (n:=(i:Int)) (i) hn (by first|assumption|omega|(simp;done));refine .z (.indexAddr rfl rfl cY) (have dk:=f5.lt;.ac (.nD f5 aG.gF (i:=i) (o:=0) a8 (k+1) aK rfl hn rfl rfl rfl rfl b0 x' λbp aA ec dV=>have f6:=f3.bF aA aa;have f7:=f4.bF aA aa;have ch:=Ext.gM bG aA aa;have np:=aA.size;have cu:(row.set i (k+1)).length=row.length:=List.length_set;.go 3 rfl ?_));exact .z (.cg ((i+1:Nat):Int) rfl rfl hn) (.ae 2 rfl ((b1 _ _ _ ⟨(i+1:Nat),((row.set i (k+1)):List Int),rfl,rfl,ch,hn,f6,f7,dV,(by first|exact agp rL hn|(exfalso;omega)),be⟩ hn).sub bj))
   refine .go 8 rfl (.z (.ct underlying225 (f4) rfl) (.ae 3 rfl ?_));refine dU (I:=λm E W=>∃(j:Nat) (yf:List Int),E=[(0,mg),(1,U k),(7,v1),(27,ku),(28,U (s.length:Int)),(29,U (j:Int))]/\m=s.length-j/\Ext w0 W/\aZ.heap.size<=W.heap.size/\aq iK W (cm w0) mg q/\Acc aG.encI 3 1 W g1 v1 yf/\aq lz W (cm w0) ku s/\(yf=gq q.length (dX q.length k (s.take j)))/\(yf.length=q.length+1)) ?_ ?_
   . refine⟨_,_,⟨(0:Nat),(row:List Int),rfl,rfl,bG,Nat.le_refl _,f3,f5,f4,(by first|exact agq rL hn),hn⟩,bj⟩
   . rintro _ _ bp ⟨j,yf,rfl,rfl,ch,np,f6,f7,f8,zq,ar8⟩ f';refine .go 2 rfl (.bg (.lt rfl rfl) (λaJ=>?_) λaJ=>?_)
     . refine .ae 2 rfl ?_;obtain⟨ax,bx,e',a8,cY,cu,js,cI⟩:=aq.fL f8 underlying225 AZ VQ (k:=.i64) (n:=(j:Int)) (j) hn aU;refine .go 6 rfl (.z (.indexAddr rfl rfl cY) (.z (.cB AZ rfl (λ_ e=>e▸cI) rfl) ?_));refine .ac (.alloc AZ λbX bI aA aX ec aW=>have dk:=f7.lt;have f9:=f6.ext aA;have f10:=f7.ext aA;have f11:=f8.ext aA;have eL:=ch.ext aA;.ac (.st AZ aW λcH aM bQ=>?_));replace bQ:ds cH bI [U ax.at_,U ax.cp] 268:=bQ;have f12:=f9.bF aM aa;have f13:=f10.bF aM aa;have f14:=f11.bF aM aa;have fI:=Ext.gM eL aM aa;have wM:=aM.size;refine .go 4 rfl (.a7 C_ aK bQ (.bg (.lt rfl rfl) (λbr=>?_) λbr=>?_))
       . refine .go 22 rfl (.z (.cg ((j+1:Nat):Int) rfl rfl hn) (.ae 2 rfl ?_));exact(f' _ _ _ ⟨(j+1:Nat),(yf:List Int),rfl,rfl,fI,hn,f12,f13,f14,F2,DD⟩ hn).sub bj
       refine .go 1 rfl (.a7 C_ aK bQ (.go 1 rfl ?_));refine .z (.ct underlying179 (f12) rfl) (.bg (.gt rfl rfl) (λcE=>?_) λcE=>?_)
       . refine .go 16 rfl (.z (.cg ((j+1:Nat):Int) rfl rfl hn) (.ae 2 rfl ?_));exact(f' _ _ _ ⟨(j+1:Nat),(yf:List Int),rfl,rfl,fI,hn,f12,f13,f14,F2,DD⟩ hn).sub bj
       refine .go 2 rfl (.a7 NO aK bQ (.bg (.lt rfl rfl) (λcw=>?_) λcw=>?_))
       . refine .go 11 rfl (.z (.cg ((j+1:Nat):Int) rfl rfl hn) (.ae 2 rfl ?_));exact(f' _ _ _ ⟨(j+1:Nat),(yf:List Int),rfl,rfl,fI,hn,f12,f13,f14,F2,DD⟩ hn).sub bj
       refine .go 2 rfl (.a7 NO aK bQ (.go 1 rfl ?_));refine .bg (.gt rfl rfl) (λdw=>?_) λdw=>?_
       . refine .go 5 rfl (.z (.cg ((j+1:Nat):Int) rfl rfl hn) (.ae 2 rfl ?_));exact(f' _ _ _ ⟨(j+1:Nat),(yf:List Int),rfl,rfl,fI,hn,f12,f13,f14,F2,DD⟩ hn).sub bj
       refine .go 6 rfl (.a7 C_ aK bQ (.go 1 rfl ?_));refine .z (.h3 (ax.at_-k) rfl rfl hn) (.z (.max rfl rfl) (.ae 3 rfl ?_));refine dU (I:=λm E W=>∃(i:Int) (zr:List Int),E=[(0,mg),(1,U k),(7,v1),(10,ptr bI 0),(11,U i),(27,ku),(28,U (s.length:Int)),(29,U (j:Int))]/\m=(3000-i).toNat/\Ext w0 W/\cH.heap.size<=W.heap.size/\aq iK W (cm w0) mg q/\Acc aG.encI 3 1 W g1 v1 zr/\ds W bI [U ax.at_,U ax.cp] 268/\aq lz W (cm w0) ku s/\bI+1≠g1/\(zr=gq q.length (tg q.length k s j i))/\(zr.length=q.length+1)/\(0<=i/\i<=3000/\ax.at_-k<=i)) ?_ ?_
       . refine⟨_,_,⟨((max (ax.at_-k) 0):Int),(yf:List Int),rfl,rfl,fI,Nat.le_refl _,f12,f13,bQ,f14,hn,(by rw[zq];exact agt a8 rfl),hn,hn⟩,bj⟩
       . rintro _ _ c8 ⟨i,zr,rfl,rfl,iG,zk,f15,f16,f17,f18,nd,OU,ar9,FM⟩ OV;refine .go 4 rfl (.a7 C_ aK f17 (.go 1 rfl ?_));refine .z (.cg (ax.at_+k) rfl rfl hn) (.go 1 rfl (.z (.ct underlying179 (f15) rfl) ?_));refine .z (.min rfl rfl) (.bg (.le rfl rfl) (λdH=>?_) λdH=>?_)
         . refine .ae 5 rfl (eT (λi=>Nat.beq i 20) 20 (λao=>Mod (b3 0) c8 ao) mixed λdA aY=>have f19:=f15.ext aY;have f20:=f16.ext aY;have f21:=f17.ext aY;have f22:=f18.ext aY;have kl:=iG.ext aY;have Dj:=aY.size;have lg:Mod (b3 0) c8 dA:=Mod.gb aY;⟨lg,?_⟩);obtain⟨x2,lH,ie,c5,e0,jv,p',eC⟩:=aq.fL f16.cj underlying57 aK aG.gF (k:=.i64) (n:=i) ((i).toNat) hn aU;refine .gd 4 rfl (.z rfl (.indexAddr rfl rfl e0) (have OW:=o6 (OU▸c5);.z rfl (.ca aK rfl (λ_ al=>eC.bF al hn)) ?_));refine .z rfl (.fieldAddr NO rfl) (.z rfl (.ca aK rfl (λ_ al=>(f17.cell 1 _ rfl).bF al hn)) (.gd 1 rfl ?_));refine .z rfl (.fieldAddr C_ rfl) (.z rfl (.ca aK rfl (λ_ al=>(f17.cell 0 _ rfl).bF al hn)) (.z rfl (.h3 (i-ax.at_) rfl rfl hn) ?_));refine .z rfl (.fieldAddr C_ rfl) (.z rfl (.ca aK rfl (λ_ al=>(f17.cell 0 _ rfl).bF al hn)) (.gd 1 rfl ?_));refine .z rfl (.h3 (ax.at_-i) rfl rfl hn) (.z rfl (.max rfl rfl) (.z rfl (.cg (ax.cp+(max (i-ax.at_) (ax.at_-i))) rfl rfl hn) ?_));refine .z rfl (.min rfl rfl) ?_;obtain⟨ih,gm,hL⟩:=Acc.at f16 underlying57 aK (k:=.i64) (n:=i) ((i).toNat) hn (by first|assumption|omega|(simp;done));refine .z rfl (.indexAddr rfl rfl ih) (.ac rfl (.nD f20 aG.gF (i:=((i).toNat)) (o:=0) hL (min x2 (ax.cp+(max (i-ax.at_) (ax.at_-i)))) aK rfl hn rfl rfl rfl rfl b0 x' λeM bu hc dV=>have f23:=f19.bF bu aa;have f24:=f21.bF bu aa;have f25:=f22.bF bu aa;have nQ:=Ext.gM kl bu aa;⟨.inl rfl,?_⟩));have ja:(zr.set ((i).toNat) (min x2 (ax.cp+(max (i-ax.at_) (ax.at_-i))))).length=zr.length:=List.length_set;refine .nil (.go 3 rfl (.z (.cg (i+1) rfl rfl hn) ?_));exact .ae 2 rfl ((OV _ _ _ ⟨((i+1):Int),((zr.set ((i).toNat) (min x2 (ax.cp+(max (i-ax.at_) (ax.at_-i))))):List Int),rfl,rfl,nQ,hn,f23,dV,f24,f25,hn,(by first|(subst OU;exact agu a8 hn hn hn hn hn c5)|(exfalso;omega)),be,DD⟩ hn).sub bj)
         refine .go 5 rfl (.z (.cg ((j+1:Nat):Int) rfl rfl hn) (.ae 2 rfl ?_));exact(f' _ _ _ ⟨(j+1:Nat),(zr:List Int),rfl,rfl,iG,hn,f15,f16,f18,F2,DD⟩ hn).sub bj
     exact .ae 9 rfl (aN func178 rfl rfl (an.mk ⟨⟨_,Acc.cast f7 (by first|exact agw zq hn|(exfalso;omega)),by omega⟩,ch⟩))
theorem akO{w0:World}{ku:Value}{s:List Int}(oj:aq aG.encI w0 (cm w0) ku s)(A6:s.length<=1000000):
 bJ 180 #[ku] w0 (an λaC ai=>(∃dp,Acc aG.encI 3 1 ai dp aC (s)/\(dp=0\/w0.heap.size<dp))/\Ext w0 ai):=by
 have bB:=eD w0;refine bP func180 rfl ntmps180 rfl ?_;obtain⟨bY,bZ,ef,cq⟩:=aq.isNil (oj);refine .go 8 rfl ?_;subst ef;refine .dY (.Mc underlying57 rfl rfl) λaL aF=>.ae 1 rfl ?_
 cases aL
 case true =>
  replace aF:=aF.symm;replace cq:=cq aF;exact .ae 5 rfl (aN func180 rfl rfl (an.mk ⟨⟨0,Acc.cast Acc.nil Db,.inl rfl⟩,bB⟩))
 replace aF:=aF.symm;exact .go 4 rfl (.ac (.buildSlice [] underlying57 aK rfl rfl rfl b0 λai aQ av aJ ec aW=>have f1:=oj.ext av;have bE:=bB.ext av;have cu:=Acc.eA (enc:=aG.encI) aW ([]:List Int) 0 rfl aG.gF rfl eS;.go 1 rfl (.ac (.append cu underlying57 aK rfl aG.gF aG.xl rfl rfl (f1) ol fy λv1 g1 aZ b_ aA b7 fF=>have bG:=Ext.gM bE aA aa;.ae 2 rfl (aN func180 rfl rfl (an.mk ⟨⟨_,Acc.cast b_ Db,by omega⟩,bG⟩))))))
theorem kK{p:Prop}(h:p:=by omega):p:=h
theorem OX{p:Prop}(h:p:=by first|exact agI F3 aa aa|exact agK F3 aa aa OW.1 Bc.1 bk bk|exact agL F3 aa aa OW.1 Bc.1 bk|(exfalso;omega)):p:=h
theorem OY{p:Prop}(h:p:=by first|exact agy bl aa|exact agz bl (VS F3 (λx=>(F4 x).1) aa aa)|exact agA bl aa (VS F3 (λx=>(F4 x).1) aa aa) Bc.1|(exfalso;omega)):p:=h
theorem DE{p:Prop}(h:p:=by first|omega|(exfalso;omega)):p:=h
theorem akP{w0:World}{n:Nat}{f:Nat->Int}{uC:Value}{row:List Int}(k:Int)(Yn:aq aG.encI w0 (cm w0) uC row)(ye:b6 k)(hk:0<=k/\k<=4)(rL:row=gq n f)(F4:∀x,0<=f x/\f x<=k+1)(aR:n<=1000):
 bJ 181 #[uC,U k] w0 (an λaC ai=>(∃dp,Acc lz 268 2 ai dp aC (fM (n+1) k f)/\(dp=0\/w0.heap.size<dp))/\Ext w0 ai):=by
 have bB:=eD w0;have oJ:row.length=n+1:=(by rw[rL];exact xK n f);refine bP func181 rfl ntmps181 rfl (.go 12 rfl (.z (.ct underlying57 (Yn) rfl) (.ae 3 rfl (dU (I:=λm E W=>∃(er:Value) (fl:Nat) (l:List Pos) (j:Nat),E=[(0,uC),(1,U k),(5,er),(10,uC),(11,U (row.length:Int)),(12,U (j:Int))]/\m=row.length-j/\Ext w0 W/\w0.heap.size<=W.heap.size/\Acc lz 268 2 W fl er l/\(fl=0\/w0.heap.size<fl)/\aq aG.encI W (cm w0) uC row/\(l=stateT (n+1) k f j)/\(j<=row.length)/\(l.length<=j)) ?_ ?_))))
 . refine⟨_,_,⟨(.slice none 0 0:Value),(0:Nat),([]:List Pos),(0:Nat),rfl,rfl,bB,Nat.le_refl _,Acc.nil,kK,Yn,dC,kK,sE⟩,bj⟩
 . rintro _ _ ai ⟨er,fl,l,j,rfl,rfl,bE,gZ,b_,b7,f1,bl,JV,mn⟩ b1;refine .go 2 rfl (.bg (.lt rfl rfl) (λaF=>?_) λaF=>?_)
   . refine .ae 2 rfl ?_;obtain⟨ax,aQ,e',a8,bT,cu,js,cI⟩:=aq.fL f1 underlying57 aK aG.gF (k:=.i64) (n:=(j:Int)) (j) kK aU;refine .go 7 rfl (.z (.indexAddr rfl rfl bT) (have Bc:=o6 (rL▸a8);have Yo:=F4 j;.z (.dQ aK cI) (.go 8 rfl (.bg (.gt rfl rfl) (λaJ=>?_) λaJ=>?_))))
     . exact .go 4 rfl (.z (.cg ((j+1:Nat):Int) rfl rfl kK) (.ae 2 rfl ((b1 _ _ _ ⟨(er:Value),(fl:Nat),(l:List Pos),(j+1:Nat),rfl,rfl,bE,kK,b_,kK,f1,OY,DE,am⟩ kK).sub bj)))
     refine .go 12 rfl (.z (.h3 ((j:Int)-k) rfl rfl kK) (.z (.max rfl rfl) (.ae 3 rfl (dU (I:=λm E W=>∃(b:Bool) (i:Int),E=[(0,uC),(1,U k),(5,er),(6,U (j:Int)),(7,U ax),(8,.bool b),(9,U i),(10,uC),(11,U (row.length:Int)),(12,U (j:Int))]/\m=(3000-i).toNat/\Ext w0 W/\ai.heap.size<=W.heap.size/\aq aG.encI W (cm w0) uC row/\Acc lz 268 2 W fl er l/\(b=q8 (n+1) f j i)/\(0<=i/\i<=3000)) ?_ ?_))))
     . refine⟨_,_,⟨(false:Bool),((max ((j:Int)-k) 0):Int),rfl,rfl,bE,Nat.le_refl _,f1,b_,(by exact agx (λx=>(F4 x).1) kK rfl),kK⟩,bj⟩
     . rintro _ _ aZ ⟨b,i,rfl,rfl,bG,i',f2,f3,F3,FM⟩ f';refine .go 6 rfl (.z (.cg ((j:Int)+k) rfl rfl kK) (.go 1 rfl (.z (.ct underlying57 (f2) rfl) (.z (.h3 ((row.length:Int)-1) rfl rfl kK) (.z (.min rfl rfl) (.bg (.le rfl rfl) (λaX=>?_) λaX=>?_))))))
       . refine .go 8 rfl ?_;cases b
         case true =>
          exact .go 28 rfl (.z (.cg (i+1) rfl rfl kK) (.ae 2 rfl ((f' _ _ _ ⟨(true:Bool),((i+1):Int),rfl,rfl,bG,kK,f2,f3,OX,DE⟩ kK).sub bj)))
         obtain⟨x2,cA,ie,c5,cY,dk,p',eC⟩:=aq.fL f2 underlying57 aK aG.gF (k:=.i64) (n:=i) ((i).toNat) kK aU;refine .go 2 rfl (.z (.indexAddr rfl rfl cY) (have OW:=o6 (rL▸c5);have ar_:=F4 i.toNat;.z (.dQ aK eC) (.go 1 rfl (.bg (.lt rfl rfl) (λbr=>?_) λbr=>?_))))
         . refine .go 3 rfl (.z (.h3 (i-(j:Int)) rfl rfl kK) (.go 2 rfl (.z (.h3 ((j:Int)-i) rfl rfl kK) (.z (.max rfl rfl) ?_))));obtain⟨gm,gN,pe,hL,e0,fa,DF,jl⟩:=aq.fL f2 underlying57 aK aG.gF (k:=.i64) (n:=i) ((i).toNat) kK aU;obtain rfl:x2=gm:=Option.some.inj (c5.symm.trans hL);exact .go 3 rfl (.z (.indexAddr rfl rfl e0) (.z (.dQ aK jl) (.z (.h3 (ax-x2) rfl rfl kK) (.dY (.le rfl rfl) λhB cE=>.go 7 rfl (.z (.cg (i+1) rfl rfl kK) (.ae 2 rfl ((f' _ _ _ ⟨(hB:Bool),((i+1):Int),rfl,rfl,bG,kK,f2,f3,OX,DE⟩ kK).sub bj)))))))
         exact .go 22 rfl (.z (.cg (i+1) rfl rfl aa) (.ae 2 rfl ((f' _ _ _ ⟨(false:Bool),((i+1):Int),rfl,rfl,bG,kK,f2,f3,OX,DE⟩ kK).sub bj)))
       refine .go 6 rfl ?_;cases b
       case true =>
        exact .z (.not rfl) (.go 5 rfl (.z (.cg ((j+1:Nat):Int) rfl rfl kK) (.ae 2 rfl ((b1 _ _ _ ⟨(er:Value),(fl:Nat),(l:List Pos),(j+1:Nat),rfl,rfl,bG,kK,f3,kK,f2,OY,DE,am⟩ kK).sub bj))))
       exact .z (.not rfl) (.go 6 rfl (.z (.build (vs:=#[(0,(U (j:Int):Value)),(1,(U ax:Value))]) (v:=.agg #[U (j:Int),U ax]) rfl (λ_=>by kernel_rfl)) (.ac (.buildSlice [(.agg #[U (j:Int),U ax]:Value)] underlying225 AZ rfl rfl rfl b0 λbp cA av br cq aW=>have dk:=f3.lt;have f4:=f2.ext av;have f5:=f3.ext av;have ch:=bG.ext av;have fa:=aq.eA (enc:=lz) aW ([(Pos.mk (j:Int) ax)]:List Pos) 1 rfl rfl eS;.ac (.append f5 underlying225 AZ rfl VQ agn rfl rfl (fa) ol fy λv1 g1 bX dV aA eJ ec=>have f6:=f4.bF aA aa;have eL:=Ext.gM ch aA aa;.go 4 rfl (.z (.cg ((j+1:Nat):Int) rfl rfl kK) (.ae 2 rfl ((b1 _ _ _ ⟨(v1:Value),(g1:Nat),((l++[(Pos.mk (j:Int) ax)]):List Pos),(j+1:Nat),rfl,rfl,eL,kK,dV,kK,f6,OY,DE,am⟩ kK).sub bj))))))))
   exact .ae 9 rfl (aN func181 rfl rfl (an.mk ⟨⟨_,Acc.cast b_ (by first|(rw[bl,show j=n+1 from by omega];rfl)|(exfalso;omega)),by omega⟩,bE⟩))
theorem akQ{w0:World}{mg:Value}{q:List Int}(k:Int)(Bl:aq iK w0 (cm w0) mg q)(ye:b6 k)(hk:0<=k/\k<=4):
 bJ 142 #[mg,U k] w0 (an λaC ai=>aq lz ai (dq w0.heap.size ai.heap.size) aC ([Pos.mk 0 0])/\Ext w0 ai):=by
 have bB:=eD w0;refine bP func142 rfl ntmps142 rfl (.go 8 rfl (.ac (.aH NW rfl (OT (w0:=w0)  (k) cN aU) ?_)));rintro _ ai ⟨⟨_,rfl,rfl⟩,av⟩;have bE:=bB.ext av;have gZ:=av.size;exact .z (.not rfl) (.go 5 rfl (.z (.build (vs:=#[]) (v:=.agg #[ad,ad]) rfl (λ_=>by kernel_rfl)) (.ac (.buildSlice [(.agg #[ad,ad]:Value)] underlying225 AZ rfl rfl rfl b0 λaZ aL aA aF cq aW=>have bG:=bE.ext aA;have cu:=aq.eA (enc:=lz) aW ([(Pos.mk 0 0)]:List Pos) 1 rfl rfl eS;.ae 2 rfl (aN func142 rfl rfl (an.mk ⟨(aq.cast (cu.cz aa aa) dC),bG⟩))))))
theorem jP{p:Prop}(h:p:=by omega):p:=h
theorem Yp{p:Prop}(h:p:=by first|(subst Ka;first|exact VT aa k1 tw iS (by rw[if_pos (by rw[hL];congr 1)];omega)|exact VT aa k1 tw iS (by rw[if_neg (by rw[hL];intro e;cases e;omega)]))|(exfalso;omega)):p:=h
theorem Kb{w0:World}{mg:Value}{q:List Int}(k:Int){ku:Value}{s:List Pos}(r:Int)(Bl:aq iK w0 (cm w0) mg q)(ye:b6 k)(oj:aq lz w0 (cm w0) ku s)(Yq:-2147483648<=r/\r<=2147483647)(hk:0<=k/\k<=4)(dM:q.length<=1000)(hW:s.length<=1000):
 bJ 146 #[mg,U k,ku,.int .i32 r] w0 (an λaC ai=>(∃dp,Acc lz 268 2 ai dp aC (fM (q.length+1) k (fH k q (dX q.length k s) r))/\(dp=0\/w0.heap.size<dp))/\Ext w0 ai):=by
 have bB:=eD w0;refine bP func146 rfl ntmps146 rfl (.go 8 rfl (.ac (.aH NW rfl (OT (w0:=w0)  (k) cN aU) ?_)));rintro _ ai ⟨⟨_,rfl,rfl⟩,av⟩;have f1:=Bl.ext av;have f2:=oj.ext av;have bE:=bB.ext av;have gZ:=av.size;refine .z (.not rfl) (.go 8 rfl (.ac (.aH Xy rfl (Ym (w0:=ai) (q:=q) (s:=s) (k) ((f1).cz (Nat.zero_le _) jP) cN ((f2).cz (Nat.zero_le _) jP) aU aU aU) ?_)));rintro v1 aZ ⟨⟨iq,h1,b7⟩,aA⟩;have f3:=f1.ext aA;have bG:=bE.ext aA;have i':=aA.size;have Oa:=h1.lt;have oJ:=xK q.length (dX q.length k s);refine .go 5 rfl (.ac (.aH aiW rfl (akO (w0:=aZ) (s:=(gq q.length (dX q.length k s)))  ((h1.cj).cz (Nat.zero_le _) jP) aU) ?_));rintro v2 bp ⟨⟨qb,ah,eJ⟩,aM⟩;have f5:=f3.ext aM;have f7:=h1.ext aM;have ch:=bG.ext aM;have np:=aM.size;have Dl:=ah.lt;obtain⟨ax,aL,e',a8,bT,dk,js,cI⟩:=aq.fL f7.cj underlying57 aK aG.gF (k:=.i64) (n:=0) (0) jP aU;refine .go 6 rfl (.z (.indexAddr rfl rfl bT) (have Bc:=o6 a8;have Yo:=xL (n:=q.length) hk.1 s 0;.z (.dQ aK cI) (.z (.cg (ax+1) rfl rfl aa) (.go 1 rfl (.z (.cg (k+1) rfl rfl aa) (.z (.min rfl rfl) ?_))))));obtain⟨cY,x2,c5⟩:=Acc.at ah underlying57 aK (k:=.i64) (n:=0) (0) jP (by first|assumption|omega|(simp;done));refine .z (.indexAddr rfl rfl cY) (.ac (.nD ah aG.gF (i:=0) (o:=0) c5 (min (ax+1) (k+1)) aK rfl jP rfl rfl rfl rfl b0 x' λbX aY cq b_=>have f8:=f5.bF aY aa;have f10:=f7.bF aY aa;have eL:=Ext.gM ch aY aa;have fa:((gq q.length (dX q.length k s)).set 0 (min (ax+1) (k+1))).length=(gq q.length (dX q.length k s)).length:=List.length_set;.go 5 rfl (.z (.ct underlying179 (f8) rfl) (.ae 3 rfl (dU (I:=λm E W=>∃(i:Nat) (vL:List Int),E=[(1,U k),(3,.int .i32 r),(9,v1),(10,v2),(32,mg),(33,U (q.length:Int)),(34,U (i:Int))]/\m=q.length-i/\Ext w0 W/\bX.heap.size<=W.heap.size/\Acc aG.encI 3 1 W iq v1 (gq q.length (dX q.length k s))/\Acc aG.encI 3 1 W qb v2 vL/\aq iK W (cm w0) mg q/\(qb≠iq\/iq=0)/\(vL=gq q.length (rV q.length k q s r i))/\(vL.length=q.length+1)) ?_ ?_)))))
 . refine⟨_,_,⟨(0:Nat),(((gq q.length (dX q.length k s)).set 0 (min (ax+1) (k+1))):List Int),rfl,rfl,eL,Nat.le_refl _,f10,b_,f8,jP,(by exact agD a8),(by(simp only[List.length_set];omega))⟩,bj⟩
 . rintro _ _ cH ⟨i,vL,rfl,rfl,fI,wM,f11,f12,f13,nd,Ka,ar'⟩ b1;refine .go 2 rfl (.bg (.lt rfl rfl) (λaF=>?_) λaF=>?_)
   . refine .ae 2 rfl ?_;obtain⟨gm,bx,ie,hL,e0,nq,p',eC⟩:=aq.fL f13 underlying179 hX oy (k:=.i64) (n:=(i:Int)) (i) jP aU;refine .go 7 rfl (.z (.indexAddr rfl rfl e0) (.z (.dQ hX eC) ?_));obtain⟨fN,bI,pe,iS,ih,mz,DF,jl⟩:=aq.fL f11.cj underlying57 aK aG.gF (k:=.i64) (n:=(i:Int)) (i) jP aU;refine .go 7 rfl (.z (.indexAddr rfl rfl ih) (have asa:=o6 iS;have asb:=xL (n:=q.length) hk.1 s i;.z (.dQ aK jl) (.go 7 rfl (.lP (.ne rfl rfl) (λaJ=>?_) λaJ=>?_))))
     . refine .go 4 rfl (.z (.cg (fN+1) rfl rfl aa) (.ae 2 rfl (eT (λi=>Nat.beq i 19) 19 (λao=>Mod (b3 0) cH ao) mixed λc8 bu=>have f14:=f11.ext bu;have f15:=f12.ext bu;have f16:=f13.ext bu;have iG:=fI.ext bu;have zk:=bu.size;have lR:Mod (b3 0) cH c8:=Mod.gb bu;⟨lR,?_⟩)));refine .gd 2 rfl (.z rfl (.cg ((i+1:Nat):Int) rfl rfl jP) (.gd 2 rfl (.z rfl (.cg ((i+1:Nat):Int) rfl rfl jP) ?_)));obtain⟨iT,dd,ts,k1,ij,me,OZ,mc⟩:=aq.fL f11.cj underlying57 aK aG.gF (k:=.i64) (n:=((i+1:Nat):Int)) (i+1) jP aU;refine .z rfl (.indexAddr rfl rfl ij) (have akR:=o6 k1;have akS:=xL (n:=q.length) hk.1 s (i+1);.z rfl (.ca aK rfl (λ_ al=>mc.bF al jP)) (.z rfl (.cg (iT+1) rfl rfl jP) ?_));obtain⟨mh,gN,zi,tw,mT,uw,akT,qG⟩:=aq.fL f12.cj underlying57 aK aG.gF (k:=.i64) (n:=(i:Int)) (i) jP aU;refine .gd 2 rfl (.z rfl (.indexAddr rfl rfl mT) (have akU:=o6 (Ka▸tw);have akV:=VV (n:=q.length) (q:=q) (r:=r) hk.1 s i i;.z rfl (.ca aK rfl (λ_ al=>qG.bF al jP)) (.z rfl (.cg (mh+1) rfl rfl jP) (.gd 2 rfl (.z rfl (.cg (k+1) rfl rfl jP) (.z rfl (.RK rfl rfl rfl rfl) ?_))))));obtain⟨pU,r9,Bm⟩:=Acc.at f12 underlying57 aK (k:=.i64) (n:=((i+1:Nat):Int)) (i+1) jP (by first|assumption|omega|(simp;done));exact .z rfl (.indexAddr rfl rfl pU) (.ac rfl (.nD f15 aG.gF (i:=(i+1)) (o:=0) Bm (min (min (min (iT+1) (mh+1)) (fN+1)) (k+1)) aK rfl jP rfl rfl rfl rfl b0 x' λdA b2 ec dV=>have f17:=f14.bF b2 aa;have f18:=f16.bF b2 aa;have kl:=Ext.gM iG b2 aa;⟨.inl rfl,(have Dh:(vL.set (i+1) (min (min (min (iT+1) (mh+1)) (fN+1)) (k+1))).length=vL.length:=List.length_set;.nil (.go 2 rfl (.z (.cg ((i+1:Nat):Int) rfl rfl jP) (.ae 2 rfl ((b1 _ _ _ ⟨(i+1:Nat),((vL.set (i+1) (min (min (min (iT+1) (mh+1)) (fN+1)) (k+1))):List Int),rfl,rfl,kl,jP,f17,dV,f18,jP,Yp,be⟩ jP).sub bj)))))⟩))
     refine .ae 3 rfl (eT (λi=>Nat.beq i 19) 19 (λao=>Mod (b3 0) cH ao) mixed λc8 bu=>have f14:=f11.ext bu;have f15:=f12.ext bu;have f16:=f13.ext bu;have iG:=fI.ext bu;have zk:=bu.size;have lR:Mod (b3 0) cH c8:=Mod.gb bu;⟨lR,?_⟩);refine .gd 2 rfl (.z rfl (.cg ((i+1:Nat):Int) rfl rfl jP) (.gd 2 rfl (.z rfl (.cg ((i+1:Nat):Int) rfl rfl jP) ?_)));obtain⟨iT,dd,ts,k1,ij,me,OZ,mc⟩:=aq.fL f11.cj underlying57 aK aG.gF (k:=.i64) (n:=((i+1:Nat):Int)) (i+1) jP aU;refine .z rfl (.indexAddr rfl rfl ij) (have akR:=o6 k1;have akS:=xL (n:=q.length) hk.1 s (i+1);.z rfl (.ca aK rfl (λ_ al=>mc.bF al jP)) (.z rfl (.cg (iT+1) rfl rfl aa) ?_));obtain⟨mh,gN,zi,tw,mT,uw,akT,qG⟩:=aq.fL f12.cj underlying57 aK aG.gF (k:=.i64) (n:=(i:Int)) (i) jP aU;refine .gd 2 rfl (.z rfl (.indexAddr rfl rfl mT) (have akU:=o6 (Ka▸tw);have akV:=VV (n:=q.length) (q:=q) (r:=r) hk.1 s i i;.z rfl (.ca aK rfl (λ_ al=>qG.bF al jP)) (.z rfl (.cg (mh+1) rfl rfl aa) (.gd 2 rfl (.z rfl (.cg (k+1) rfl rfl aa) (.z rfl (.RK rfl rfl rfl rfl) ?_))))));obtain⟨pU,r9,Bm⟩:=Acc.at f12 underlying57 aK (k:=.i64) (n:=((i+1:Nat):Int)) (i+1) jP (by first|assumption|omega|(simp;done));exact .z rfl (.indexAddr rfl rfl pU) (.ac rfl (.nD f15 aG.gF (i:=(i+1)) (o:=0) Bm (min (min (min (iT+1) (mh+1)) fN) (k+1)) aK rfl jP rfl rfl rfl rfl b0 x' λdA b2 ec dV=>have f17:=f14.bF b2 aa;have f18:=f16.bF b2 aa;have kl:=Ext.gM iG b2 aa;⟨.inl rfl,(have Dh:(vL.set (i+1) (min (min (min (iT+1) (mh+1)) fN) (k+1))).length=vL.length:=List.length_set;.nil (.go 2 rfl (.z (.cg ((i+1:Nat):Int) rfl rfl jP) (.ae 2 rfl ((b1 _ _ _ ⟨(i+1:Nat),((vL.set (i+1) (min (min (min (iT+1) (mh+1)) fN) (k+1))):List Int),rfl,rfl,kl,jP,f17,dV,f18,jP,Yp,be⟩ jP).sub bj)))))⟩))
   refine .go 8 rfl (.ac (.aH aiX rfl (akP (w0:=cH) (row:=vL) (k) ((f12.cj).cz (Nat.zero_le _) jP) cN aU (by exact agH Ka jP) (by exact Nh hk.1 (xL hk.1 s)) aU) ?_));rintro v3 c8 ⟨⟨tu,aB,kS⟩,bu⟩;have nq:=f11.lt;have mz:=f12.lt;have iG:=fI.ext bu;have zk:=bu.size;exact .ae 2 rfl (aN func146 rfl rfl (an.mk ⟨⟨_,Acc.cast aB dC,by omega⟩,iG⟩))
theorem Kc{p:Prop}(h:p:=by first|(rw[if_pos aa];done)|(rw[if_neg aa];omega)|exact(decide_eq_false aa).symm|exact(decide_eq_true aa).symm|(exfalso;omega)):p:=h
theorem akW{w0:World}{mg:Value}{q:List Int}(k:Int){ku:Value}{s:List Pos}(Bl:aq iK w0 (cm w0) mg q)(ye:b6 k)(oj:aq lz w0 (cm w0) ku s)(hk:0<=k/\k<=4)(dM:q.length<=1000)(hW:s.length<=1000):
 bJ 143 #[mg,U k,ku] w0 (an λaC ai=>∃eR gi,aC=.tuple #[eR,gi]/\eR=U (if dX q.length k s q.length>k then 0 else dX q.length k s q.length)/\(∃cr:Bool,cr=(decide (dX q.length k s q.length<=k))/\gi=.bool cr)/\Ext w0 ai):=by
 have bB:=eD w0;refine bP func143 rfl ntmps143 rfl (.go 9 rfl (.ac (.aH NW rfl (OT (w0:=w0)  (k) cN aU) ?_)));rintro _ ai ⟨⟨_,rfl,rfl⟩,av⟩;have f1:=Bl.ext av;have f2:=oj.ext av;have bE:=bB.ext av;have gZ:=av.size;refine .z (.not rfl) (.go 8 rfl (.ac (.aH Xy rfl (Ym (w0:=ai) (q:=q) (s:=s) (k) ((f1).cz (Nat.zero_le _) aa) cN ((f2).cz (Nat.zero_le _) aa) aU aU aU) ?_)));rintro v1 aZ ⟨⟨iq,h1,b7⟩,aA⟩;have f3:=f1.ext aA;have bG:=bE.ext aA;have oJ:=xK q.length (dX q.length k s);refine .go 1 rfl (.z (.ct underlying179 (f3) rfl) ?_);obtain⟨ax,aL,e',a8,bT,cu,js,cI⟩:=aq.fL h1.cj underlying57 aK aG.gF (k:=.i64) (n:=(q.length:Int)) (q.length) aa aU;refine .z (.indexAddr rfl rfl bT) (have Bc:=o6 a8;have Yo:=xL (n:=q.length) hk.1 s q.length;.z (.dQ aK cI) (.go 7 rfl (.bg (.gt rfl rfl) (λaF=>?_) λaF=>?_)))
 . exact .ae 7 rfl (cM func143 rfl rfl rfl (an.mk ⟨_,_,rfl,(cR Kc),⟨_,Kc,rfl⟩,bG⟩))
 exact .ae 9 rfl (cM func143 rfl rfl rfl (an.mk ⟨_,_,rfl,(cR Kc),⟨_,Kc,rfl⟩,bG⟩))
theorem Kd{w0:World}{ku:Value}{s:List Pos}(oj:aq lz w0 (cm w0) ku s):
 bJ 147 #[ku] w0 (an λaC ai=>(∃cr:Bool,cr=s.isEmpty/\aC=.bool cr)/\Ext w0 ai):=by
 have bB:=eD w0;exact bP func147 rfl ntmps147 rfl (.go 7 rfl (.z (.ct underlying225 (oj) rfl) (.dY (.eq rfl rfl) λaL aF=>.ae 2 rfl (aN func147 rfl rfl (an.mk ⟨⟨_,(by first|exact agJ bk|(exfalso;omega)),rfl⟩,bB⟩)))))
end Go.Proofs
namespace Go.Proofs
open Tryz
open Go.aG Go.ak
theorem zs{p:Prop}(h:p:=by first|(rw[agR rfl rfl,Bn,V3 aa F5];simp)|(rw[Bn,V3 aa F5,ag3 hd.1 F6 lN jI oA l' rfl bk];rfl)|(exfalso;omega)):p:=h
theorem zt{p:Prop}(h:p:=by first|(rw[VX];rw[V4 aa oI];simp only;omega)|(rw[V4 aa oI];omega)|(exfalso;omega)):p:=h
theorem jD{p:Prop}(h:p:=by omega):p:=h
theorem zu{p:Prop}(h:p:=by first|exact yg|exact λx ag=>List.mem_append_left _ (yg x ag)|(exfalso;omega)):p:=h
theorem mC{p:Prop}(h:p:=by assumption):p:=h
theorem zv{p:Prop}(h:p:=by first|exact Ke|exact sL|(exfalso;omega)):p:=h
theorem Kf{p:Prop}(h:p:=by first|have:=CV sL;rw[Nn aa] at DG;omega|(exfalso;omega)):p:=h
theorem zw{p:Prop}(h:p:=by first|omega|(exfalso;omega)):p:=h
theorem Kg{p:Prop}(h:p:=by first|rw[Nn aa] at DG;omega|(exfalso;omega)):p:=h
theorem Kh{p:Prop}(h:p:=by first|rw[Bn,V2 aa];exact ch|(exfalso;omega)):p:=h
theorem Ki{p:Prop}(h:p:=by first|rw[bG,Bn,V2 aa]|(exfalso;omega)):p:=h
theorem Kj{p:Prop}(h:p:=by(rw[agQ (by have:=ag5 F7;omega)];rfl)):p:=h
theorem F8{p:Prop}(h:p:=by first|assumption|omega|(simp;done)):p:=h
theorem Kk{p:Prop}(h:p:=by rw[Nn aa] at DG;omega):p:=h
theorem Kl{p:Prop}(h:p:=by first|exact sL|(exfalso;omega)):p:=h
theorem akX {w0:World} {F G:Nat→Prop} {b9:Type} {A:b9→dr az} {kO:FuncId} {first cap:List Value} {ok:b9→aj→Prop} {f:b9→aj→b9×Bool} {ju mg:Value} {gV fb:Nat} {s:c9} {words:List aj} {te:List cd} {q:List Int} (d:Int) (dG:b9) (aE:V0 Tryz.prog kO first cap A ok f) (bf:(A dG).p F w0) (bs:∀ b,F b→b < w0.heap.size) (p1:hy 0 w0 gV fb ju (fV s)) (pY:fb≤w0.heap.size) (F9:∀ b,gV≤b→b < fb→¬ F b) (dM:aq iK w0 G mg q) (cb:∀ b,G b→¬ F b) (dE:∀ b,G b→b < w0.heap.size) (hd:0≤d∧d≤4) (Dz:q.length≤999) (akY:nodeAt (fV s) 0=(jX words,te)) (Em:oZ s (words,te)) (nr:gv words) (akZ:Deep 12 words) (l':∀ y∈s,oZ s y∧gv y.1∧Deep 12 y.1) (dN:s.length≤1000000) (iB:∀ x∈fV s,x.2.length≤1000000) (ak0:uf words≤500000) (bW:l7 ok f dG (p7 words q d)) :
 bJ 100 #[ju,mg,U d,.func (.func kO) first.toArray cap.toArray] w0 (an fun aC ai=>aC=.tuple #[]∧Mod F w0 ai∧∃ bz,(A (fq f dG (p7 words q d)).1).p bz ai∧∀ b,bz b→b < ai.heap.size∧(F b∨w0.heap.size≤b)):=by
 have dR:=au.hh (R:=az) bf (fun b ab=>⟨bs b ab,id⟩) (fun _ h=>h.elim);have rR:(fV s).length≤1000000:=(by rw [u5]; exact dN);refine bP func100 rfl ntmps100 rfl ?_;refine .go 4 rfl ?_;refine .ac (.aH aiL rfl (akQ (w0:=w0) (q:=q) (d) (dM.mono (fun b ab=>⟨Nat.zero_le _,Nat.lt_of_lt_of_le (dE b ab) dR.mod.size⟩)) cN aU) ?_);rintro v1 ai ⟨h1,av⟩;have a6:=(dR.EJ av h1).bM;have vC:=h1.le;have f1:=a6.gh 1 0;obtain ⟨bY,bZ,ef⟩:=f1.shape;subst ef;refine .z (.build (vs:=#[(0,(ad:Value)),(1,(.slice bY ([Pos.mk 0 0]).length bZ)),(2,aD ([]:aj))]) (v:=.agg #[ad,(.slice bY ([Pos.mk 0 0]).length bZ),aD ([]:aj)]) rfl (fun _=>by kernel_rfl)) ?_;refine .ac (.buildSlice [(.agg #[ad,(.slice bY ([Pos.mk 0 0]).length bZ),aD ([]:aj)]:Value)] underlying229 sA rfl rfl rfl b0 fun aZ aL aA aF cq aW=>?_);have cu:=Acc.eA (enc:=q') aW ([(hA.mk 0 (cL.mk bY ([Pos.mk 0 0]).length bZ) ([]:aj))]:List hA) 1 rfl AU rfl eS;have a1:=(a6.fR aA cu (.inr aa)).cv;have ba:=(a1.dB [2,1,0]).cv;refine .ae 3 rfl ?_;refine dU (I:=fun m E W=>∃ (O0:Value) (hr:List hA) (nA:List hb) (V:List (Value×List Pos)) (ew:b9),E=[(0,ju),(1,mg),(2,U d),(3,.func (.func kO) first.toArray cap.toArray),(8,O0)]∧m=q9 nA∧au az F w0 W [aP q' 228 3 O0 hr,fc lz V,A ew]∧(c3 (nM q d s V) hr nA)∧(fq f dG (p7 words q d)=fq f ew (mL q d nA))∧(l7 ok f ew (mL q d nA))∧(q9 nA≤500000)∧(hr.length≤500000)) ?_ ?_
 · refine ⟨_,_,⟨((.slice (some ⟨aL,0,none⟩) 1 1):Value),([(hA.mk 0 (cL.mk bY ([Pos.mk 0 0]).length bZ) ([]:aj))]:List hA),([hb.mk 0 (words,te) []]:List hb),([((.slice bY ([Pos.mk 0 0]).length bZ),([Pos.mk 0 0]))]:List (Value×List Pos)),(dG:b9),rfl,rfl,ba,(by exact nM.start hd.1 rfl akY Em nr akZ),(by rw [VZ]),(by rw [VZ]; exact bW),(by simpa [q9] using ak0),dh⟩,bj⟩
 · rintro _ _ bp ⟨O0,hr,nA,V,ew,rfl,rfl,bd,vZ,fW,pt,asc,JF⟩ b1;obtain ⟨g1,f2,dk,bt⟩:=bd.b' 0;refine .go 4 rfl ?_;refine .z (.ct underlying229 (f2.cj) rfl) ?_;refine .bg (.gt rfl rfl) (fun aJ=>?_) fun aJ=>?_
   · refine .go 8 rfl ?_;refine .z (.ct underlying229 (f2.cj) rfl) ?_;refine .z (.h3 ((hr.length:Int)-1) rfl rfl jD) ?_;obtain ⟨ax,bx,e',a8,bT,fa,cI⟩:=aq.jJ f2.cj underlying229 sA AU (k:=.i64) (n:=((hr.length:Int)-1)) (hr.length-1) jD aU;refine .z (.indexAddr rfl rfl bT) ?_;refine .z (.cB sA rfl (fun _ e=>e▸cI) rfl) ?_;obtain ⟨mu,z,zx,rfl,rfl,cq,F_,p8,F7,w1,F6,asd,ase,Km,vV⟩:=nM.pop vZ a8 jD;rw [VW,agO w1,←agP] at fW pt;have asf:=VX mu z;have asg:=agW w1;have qJ:=agY (q:=q) (w:=z.word) hd.1 (D:=dX q.length d (ft q d (dZ z.word)) q.length) rfl;have ak1:=agC (q.length+1) d (hU q (dZ z.word));change (ft q d (dZ z.word)).length≤_ at ak1;refine .ac (.alloc sA fun bX bI aM aX ec bQ=>?_);have bN:=(bd.cS aM aX bQ).bU;have f3:=bN.k 3;refine .ac (.st sA f3 fun cH aY cP=>?_);have bC:=(bN.db 3 aY cP.hG).bU;obtain ⟨g2,f4,gI,cD⟩:=bC.b' 0;refine .go 5 rfl ?_;refine .z (.ct underlying229 (f4.cj) rfl) ?_;refine .z (.h3 ((hr.length:Int)-1) rfl rfl jD) ?_;obtain ⟨v2,cY,b_⟩:=Acc.cut (P:=Tryz.prog) f4 underlying229 sA AU (k:=.i64) (n:=((hr.length:Int)-1)) (hr.length-1) jD jD;refine .z (.qU rfl rfl rfl rfl cY) ?_;have bL:=(cD _ _ _ _ (Mod.refl _ _) b_ (.inl rfl)).bU;refine .go 7 rfl ?_;have f5:=bL.k 3;refine .a7 Fq Fl f5 ?_;have f6:=bL.out dM cb;have f7:=bL.Fa (i:=1) rfl F_;refine .ac (.aH aiM rfl (akW (w0:=cH) (q:=q) (s:=(ft q d (dZ z.word))) (d) (f6.mono (fun b ab=>⟨Nat.zero_le _,Nat.lt_of_lt_of_le (dE b ab) bL.mod.size⟩)) cN f7 aU aU aU) ?_);rintro _ c8 ⟨_,_,rfl,rfl,⟨cA,br,rfl⟩,bu⟩;have bq:=bL.ext bu;refine .go 10 rfl ?_;cases cA
     case true =>
      replace br:=br.symm;refine .go 2 rfl ?_;refine .gk (.eq rfl rfl) (fun cE=>?_) fun cE=>?_
      · refine .go 3 rfl ?_;have f8:=bq.k 3;refine .a7 Fp aK f8 ?_;have f9:=hy.AT p1 bq.mod F9;refine .ac (.aH Xv rfl (XU (w0:=c8)  (z.n:Int) f9 (Nat.le_trans pY bq.mod.size) cN F8) ?_);rintro _ dA ⟨⟨gN,cw,rfl⟩,b2⟩;have bO:=bq.ext b2;rw [p8] at cw;dsimp only at cw;refine .go 2 rfl ?_;cases gN
        case true =>
         replace cw:=cw.symm;refine .go 1 rfl ?_;have f10:=bO.k 3;refine .a7 Fs dI f10 ?_;have Aa:jX z.x.1=true:=(by assumption);obtain ⟨h8,dz,dt,de⟩:=bO.eH 2;refine .ac (.call (first:=first) (cap:=cap) aE.cl rfl rfl (aE.call _ _ _ _ dz (fun b ab=>(dt b ab).2) (ag1 pt ⟨Aa,qJ.1 (Fc mC mC)⟩)) ?_);rintro _ eM ⟨rfl,cC,fs,gX,eg⟩;have b5:=(de _ _ _ cC gX eg).bU;clear dz dt de gX eg;generalize dw:(f ew z.word).2=hB;replace dw:=dw.symm;cases hB
         case true =>
          replace dw:=dw.symm;refine .z (.not rfl) ?_;refine .go 7 rfl ?_;have f11:=b5.k 3;refine .a7 Fp aK f11 ?_;have f12:=hy.AT p1 b5.mod F9;refine .ac (.aH Da rfl (Dg (w0:=eM)  (z.n:Int) f12 (Nat.le_trans pY b5.mod.size) cN F8 (by first|assumption|(simp; done))) ?_);rintro v3 ff ⟨⟨iq,ah,b7⟩,dg⟩;have ck:=(b5.fR dg ah b7).cU;clear b7;have uB:(nodeAt (fV s) (z.n:Int)).2=z.x.2:=(by rw [p8]);have vI:=Cr iB (z.n:Int);rw [uB] at vI;have cJ:au az F w0 ff [aP q' 228 3 v2 (hr.take (hr.length-1)),fc lz V,A (f ew z.word).1,aw bI [U (z.n:Int),zx.val,aD z.word] 228,aP e2 233 2 v3 z.x.2]:=(by rw [←uB]; exact ck);have bG:fq f dG (p7 words q d)=fq f (f ew z.word).1 (mM q d z 0++mL q d mu):=ag0 fW ⟨Aa,qJ.1 (Fc mC mC)⟩ mC;have ch:l7 ok f (f ew z.word).1 (mM q d z 0++mL q d mu):=ag2 pt ⟨Aa,qJ.1 (Fc mC mC)⟩ mC;obtain ⟨g3,f13,jv,dK⟩:=cJ.b' 4;refine .go 5 rfl ?_;refine .z (.ct underlying219 (f13.cj) rfl) ?_;refine .z (.h3 ((z.x.2.length:Int)-1) rfl rfl jD) ?_;have dD:=(cJ.dB [0,1,3,4,2]).cU;refine .ae 3 rfl ?_;refine dU (I:=fun m E W=>∃ (nV:Value) (mi:List hA) (i:Int) (k3:List hb) (km:List (Value×List Pos)),E=[(0,ju),(1,mg),(2,U d),(3,.func (.func kO) first.toArray cap.toArray),(8,nV),(9,ptr bI 0),(12,v3),(13,U i)]∧m=(i+1).toNat∧au az F w0 W [aP q' 228 3 nV mi,fc lz km,aw bI [U (z.n:Int),zx.val,aD z.word] 228,aP e2 233 2 v3 z.x.2,A (f ew z.word).1]∧(c3 (nM q d s km) mi k3)∧(∀ x∈V,x∈km)∧(mL q d k3=mM q d z (i+1).toNat++mL q d mu)∧(q9 k3≤q9 mu+q_ (ha (fG z.x.1)) (i+1).toNat)∧(-1≤i∧i < (z.x.2.length:Int))) ?_ ?_
          · refine ⟨_,_,⟨(v2:Value),((hr.take (hr.length-1)):List hA),(((z.x.2.length:Int)-1):Int),(mu:List hb),(V:List (Value×List Pos)),rfl,rfl,dD,(by exact cq),(by exact fun x ag=>ag),Kj,jD,jD⟩,bj⟩
          · rintro _ _ fv ⟨nV,mi,i,k3,km,rfl,rfl,da,sL,yg,Bn,DG,x_⟩ f';refine .go 4 rfl ?_;refine .bg (.ge rfl rfl) (fun dH=>?_) fun dH=>?_
            · refine .ae 1 rfl ?_;obtain ⟨g4,f14,ja,hs⟩:=da.b' 3;obtain ⟨x2,lH,ie,c5,e0,nq,eC⟩:=aq.jJ f14.cj underlying219 eP lu (k:=.i64) (n:=i) ((i).toNat) jD aU;refine .go 8 rfl ?_;refine .z (.indexAddr rfl rfl e0) ?_;obtain ⟨fT,yb,qi,kJ,lN,qA,oA,jI,FU⟩:=AD F7 w1 c5;obtain ⟨vf,rfl,th⟩:=Cs w1 Km kJ;have oR:fC x2.rune=en fT.1:=(by rw [lN]; exact yH jI);have Bo:=xx fT.1;have O1:(fC x2.rune).length≤4:=(by rw [oR]; exact Bo);have pI:0≤x2.rune∧x2.rune≤1114111:=(by rw [lN]; have:=jI.1; omega);have F5:=IM (q:=q) (d:=d) kJ;have oI:=IP kJ;have O2:=E_ fT.2;have O3:=CV sL;have O4:=IT (ha (fG z.x.1)) (i+1).toNat;refine .z (.cB eP rfl (fun _ e=>e▸eC) rfl) ?_;refine .ac (.alloc eP fun ht pf dn fg hc df=>?_);have fh:=(da.cS dn fg df).n6;have f15:=fh.k 5;refine .ac (.store eP rfl rfl rfl rfl rfl f15 dm fun jm dS g_ e5=>?_);have eE:=(fh.db 5 dS e5.c2).n6;refine .go 5 rfl ?_;have f16:=eE.k 2;refine .a7 Fq Fl f16 ?_;have f17:=eE.k 5;refine .a7 rf hX f17 ?_;have f18:=eE.out dM cb;have f19:=eE.Fa (i:=1) rfl (yg _ F_);refine .ac (.aH Jl rfl (Kb (w0:=jm) (q:=q) (s:=(ft q d (dZ z.word))) (d) (x2.rune) (f18.mono (fun b ab=>⟨Nat.zero_le _,Nat.lt_of_lt_of_le (dE b ab) eE.mod.size⟩)) cN f19 cN aU aU aU) ?_);rintro v4 lU ⟨⟨qb,aB,eJ⟩,eW⟩;have gu:=(eE.fR eW aB eJ).n7;clear eJ;obtain ⟨g5,f20,mz,jA⟩:=gu.b' 6;refine .go 5 rfl ?_;refine .ac (.aH Jm rfl (Kd (w0:=lU) (s:=(fM (q.length+1) d (fH d q (dX q.length d (ft q d (dZ z.word))) x2.rune)))  (f20.cj.cz (Nat.zero_le _) f20.lt)) ?_);rintro _ pK ⟨⟨r0,hf,rfl⟩,gQ⟩;have fw:=gu.ext gQ;cases r0
              case true =>
               replace hf:=hf.symm;refine .z (.not rfl) ?_;refine .go 6 rfl ?_;refine .z (.h3 (i-1) rfl rfl jD) ?_;have gO:=(fw.dB [0,1,2,3,4]).cU;refine .ae 2 rfl ?_;exact (f' _ _ _ ⟨(nV:Value),(mi:List hA),((i-1):Int),(k3:List hb),(km:List (Value×List Pos)),rfl,rfl,gO,zv,zu,zs,zt,zw⟩ jD).sub bj
              replace hf:=hf.symm;refine .z (.not rfl) ?_;refine .go 4 rfl ?_;have f21:=fw.k 5;refine .a7 rh aK f21 ?_;refine .go 1 rfl ?_;have f22:=fw.k 2;refine .a7 Fs dI f22 ?_;refine .a7 rf hX f21 ?_;refine .z (.vX c6 underlying9 rfl) ?_;refine .z (.uR rfl rfl vE) ?_;obtain ⟨g6,f23,mS,p4⟩:=fw.b' 6;obtain ⟨eN,eO,ki⟩:=f23.shape;subst ki;refine .z (.build (vs:=#[(0,(U x2.to:Value)),(1,(.slice eN (fM (q.length+1) d (fH d q (dX q.length d (ft q d (dZ z.word))) x2.rune)).length eO)),(2,aD (z.word++(fC x2.rune)))]) (v:=.agg #[U x2.to,(.slice eN (fM (q.length+1) d (fH d q (dX q.length d (ft q d (dZ z.word))) x2.rune)).length eO),aD (z.word++(fC x2.rune))]) rfl (fun _=>by kernel_rfl)) ?_;refine .ac (.buildSlice [(.agg #[U x2.to,(.slice eN (fM (q.length+1) d (fH d q (dX q.length d (ft q d (dZ z.word))) x2.rune)).length eO),aD (z.word++(fC x2.rune))]:Value)] underlying229 sA rfl rfl rfl b0 fun Dm Be kH om ka gA=>?_);have lj:=aq.eA (enc:=q') gA ([(hA.mk x2.to (cL.mk eN (fM (q.length+1) d (fH d q (dX q.length d (ft q d (dZ z.word))) x2.rune)).length eO) (z.word++(fC x2.rune)))]:List hA) 1 rfl rfl eS;have gP:=(fw.hI kH om ka lj).n8;obtain ⟨g8,f24,me,o3⟩:=gP.b' 0;have f25:=gP.gh 7 0;refine .ac (.append f24 underlying229 sA rfl AU IS rfl rfl (f25) ol fy fun v5 g7 ak2 dV O5 kS vH=>?_);have jb:=(o3 _ _ _ _ O5 dV kS).n8;clear kS;have j3:=(jb.freeze (i:=6) rfl).n8;have lI:=(j3.aQ [0,2,3,4,5,7] 1 6).n7;have pg:=(lI.ty (fc lz (km++[((.slice eN (fM (q.length+1) d (fH d q (dX q.length d (ft q d (dZ z.word))) x2.rune)).length eO),(fM (q.length+1) d (fH d q (dX q.length d (ft q d (dZ z.word))) x2.rune)))])) 6 rfl (fun ei bR=>IQ bR)).n7;have Ke:=nM.push hd.1 sL dN l' F6 (sh:=cL.mk eN (fM (q.length+1) d (fH d q (dX q.length d (ft q d (dZ z.word))) x2.rune)).length eO) (L:=(fM (q.length+1) d (fH d q (dX q.length d (ft q d (dZ z.word))) x2.rune))) (wd:=z.word++fC x2.rune) lN oA jI rfl (by rw [oR]) th vV qA;refine .go 5 rfl ?_;refine .z (.h3 (i-1) rfl rfl jD) ?_;have uD:=(pg.dB [0,6,1,2,3]).cU;refine .ae 2 rfl ?_;exact (f' _ _ _ ⟨(v5:Value),((mi++[(hA.mk x2.to (cL.mk eN (fM (q.length+1) d (fH d q (dX q.length d (ft q d (dZ z.word))) x2.rune)).length eO) (z.word++(fC x2.rune)))]):List hA),((i-1):Int),((k3++[hb.mk yb (fT.2,qi) (z.word++en fT.1)]):List hb),((km++[((.slice eN (fM (q.length+1) d (fH d q (dX q.length d (ft q d (dZ z.word))) x2.rune)).length eO),(fM (q.length+1) d (fH d q (dX q.length d (ft q d (dZ z.word))) x2.rune)))]):List (Value×List Pos)),rfl,rfl,uD,zv,zu,zs,zt,zw⟩ jD).sub bj
            refine .ae 1 rfl ?_;have ek:=(da.dB [0,1,4]).cv;refine .ae 3 rfl ?_;exact (b1 _ _ _ ⟨(nV:Value),(mi:List hA),(k3:List hb),(km:List (Value×List Pos)),((f ew z.word).1:b9),rfl,rfl,ek,Kl,Ki,Kh,Kg,Kf⟩ Kk).sub bj
         replace dw:=dw.symm;refine .z (.not rfl) ?_;refine .ae 3 rfl ?_;refine tD func100 rfl ?_;have bS:=(b5.dB [2]).cf;have ow:(fq f dG (p7 words q d)).1=(f ew z.word).1:=(by first|(rw [V1 fW ⟨Aa,qJ.1 (Fc mC mC)⟩ mC]; done)|(rw [fW,V5 vZ jD]; rfl));obtain ⟨cF,cW,cX,cQ⟩:=bS.fin;exact an.mk ⟨rfl,cF,cW,ow▸cX,cQ⟩
        replace cw:=cw.symm;refine .go 12 rfl ?_;have f10:=bO.k 3;refine .a7 Fp aK f10 ?_;have f11:=hy.AT p1 bO.mod F9;refine .ac (.aH Da rfl (Dg (w0:=dA)  (z.n:Int) f11 (Nat.le_trans pY bO.mod.size) cN F8 (by first|assumption|(simp; done))) ?_);rintro v3 eM ⟨⟨iq,ah,b7⟩,cC⟩;have bS:=(bO.fR cC ah b7).cU;clear b7;have uB:(nodeAt (fV s) (z.n:Int)).2=z.x.2:=(by rw [p8]);have vI:=Cr iB (z.n:Int);rw [uB] at vI;have ck:au az F w0 eM [aP q' 228 3 v2 (hr.take (hr.length-1)),fc lz V,A ew,aw bI [U (z.n:Int),zx.val,aD z.word] 228,aP e2 233 2 v3 z.x.2]:=(by rw [←uB]; exact bS);have bG:fq f dG (p7 words q d)=fq f ew (mM q d z 0++mL q d mu):=Nk fW (fun al=>by first|exact CW mC (qJ.2 al.2)|exact CX mC (qJ.2 al.2)|exact absurd al.1 (by simp [*]));have ch:l7 ok f ew (mM q d z 0++mL q d mu):=Nl pt (fun al=>by first|exact CW mC (qJ.2 al.2)|exact CX mC (qJ.2 al.2)|exact absurd al.1 (by simp [*]));obtain ⟨g3,f12,jv,dK⟩:=ck.b' 4;refine .go 5 rfl ?_;refine .z (.ct underlying219 (f12.cj) rfl) ?_;refine .z (.h3 ((z.x.2.length:Int)-1) rfl rfl jD) ?_;have da:=(ck.dB [0,1,3,4,2]).cU;refine .ae 3 rfl ?_;refine dU (I:=fun m E W=>∃ (nV:Value) (mi:List hA) (i:Int) (k3:List hb) (km:List (Value×List Pos)),E=[(0,ju),(1,mg),(2,U d),(3,.func (.func kO) first.toArray cap.toArray),(8,nV),(9,ptr bI 0),(12,v3),(13,U i)]∧m=(i+1).toNat∧au az F w0 W [aP q' 228 3 nV mi,fc lz km,aw bI [U (z.n:Int),zx.val,aD z.word] 228,aP e2 233 2 v3 z.x.2,A ew]∧(c3 (nM q d s km) mi k3)∧(∀ x∈V,x∈km)∧(mL q d k3=mM q d z (i+1).toNat++mL q d mu)∧(q9 k3≤q9 mu+q_ (ha (fG z.x.1)) (i+1).toNat)∧(-1≤i∧i < (z.x.2.length:Int))) ?_ ?_
        · refine ⟨_,_,⟨(v2:Value),((hr.take (hr.length-1)):List hA),(((z.x.2.length:Int)-1):Int),(mu:List hb),(V:List (Value×List Pos)),rfl,rfl,da,(by exact cq),(by exact fun x ag=>ag),Kj,jD,jD⟩,bj⟩
        · rintro _ _ ff ⟨nV,mi,i,k3,km,rfl,rfl,cJ,sL,yg,Bn,DG,x_⟩ f';refine .go 4 rfl ?_;refine .bg (.ge rfl rfl) (fun dw=>?_) fun dw=>?_
          · refine .ae 1 rfl ?_;obtain ⟨g4,f13,ja,hs⟩:=cJ.b' 3;obtain ⟨x2,kv,ie,c5,e0,nq,eC⟩:=aq.jJ f13.cj underlying219 eP lu (k:=.i64) (n:=i) ((i).toNat) jD aU;refine .go 8 rfl ?_;refine .z (.indexAddr rfl rfl e0) ?_;obtain ⟨fT,yb,qi,kJ,lN,qA,oA,jI,FU⟩:=AD F7 w1 c5;obtain ⟨vf,rfl,th⟩:=Cs w1 Km kJ;have oR:fC x2.rune=en fT.1:=(by rw [lN]; exact yH jI);have Bo:=xx fT.1;have O1:(fC x2.rune).length≤4:=(by rw [oR]; exact Bo);have pI:0≤x2.rune∧x2.rune≤1114111:=(by rw [lN]; have:=jI.1; omega);have F5:=IM (q:=q) (d:=d) kJ;have oI:=IP kJ;have O2:=E_ fT.2;have O3:=CV sL;have O4:=IT (ha (fG z.x.1)) (i+1).toNat;refine .z (.cB eP rfl (fun _ e=>e▸eC) rfl) ?_;refine .ac (.alloc eP fun fv lH dg dH hc df=>?_);have ek:=(cJ.cS dg dH df).n6;have f14:=ek.k 5;refine .ac (.store eP rfl rfl rfl rfl rfl f14 dm fun ht dn g_ e5=>?_);have fh:=(ek.db 5 dn e5.c2).n6;refine .go 5 rfl ?_;have f15:=fh.k 2;refine .a7 Fq Fl f15 ?_;have f16:=fh.k 5;refine .a7 rf hX f16 ?_;have f17:=fh.out dM cb;have f18:=fh.Fa (i:=1) rfl (yg _ F_);refine .ac (.aH Jl rfl (Kb (w0:=ht) (q:=q) (s:=(ft q d (dZ z.word))) (d) (x2.rune) (f17.mono (fun b ab=>⟨Nat.zero_le _,Nat.lt_of_lt_of_le (dE b ab) fh.mod.size⟩)) cN f18 cN aU aU aU) ?_);rintro v4 jm ⟨⟨qb,aB,eJ⟩,dS⟩;have et:=(fh.fR dS aB eJ).n7;clear eJ;obtain ⟨g5,f19,mz,jA⟩:=et.b' 6;refine .go 5 rfl ?_;refine .ac (.aH Jm rfl (Kd (w0:=jm) (s:=(fM (q.length+1) d (fH d q (dX q.length d (ft q d (dZ z.word))) x2.rune)))  (f19.cj.cz (Nat.zero_le _) f19.lt)) ?_);rintro _ lU ⟨⟨pf,fg,rfl⟩,eW⟩;have gu:=et.ext eW;cases pf
            case true =>
             replace fg:=fg.symm;refine .z (.not rfl) ?_;refine .go 6 rfl ?_;refine .z (.h3 (i-1) rfl rfl jD) ?_;have fw:=(gu.dB [0,1,2,3,4]).cU;refine .ae 2 rfl ?_;exact (f' _ _ _ ⟨(nV:Value),(mi:List hA),((i-1):Int),(k3:List hb),(km:List (Value×List Pos)),rfl,rfl,fw,zv,zu,zs,zt,zw⟩ jD).sub bj
            replace fg:=fg.symm;refine .z (.not rfl) ?_;refine .go 4 rfl ?_;have f20:=gu.k 5;refine .a7 rh aK f20 ?_;refine .go 1 rfl ?_;have f21:=gu.k 2;refine .a7 Fs dI f21 ?_;refine .a7 rf hX f20 ?_;refine .z (.vX c6 underlying9 rfl) ?_;refine .z (.uR rfl rfl vE) ?_;obtain ⟨g6,f22,mS,p4⟩:=gu.b' 6;obtain ⟨eN,eO,ki⟩:=f22.shape;subst ki;refine .z (.build (vs:=#[(0,(U x2.to:Value)),(1,(.slice eN (fM (q.length+1) d (fH d q (dX q.length d (ft q d (dZ z.word))) x2.rune)).length eO)),(2,aD (z.word++(fC x2.rune)))]) (v:=.agg #[U x2.to,(.slice eN (fM (q.length+1) d (fH d q (dX q.length d (ft q d (dZ z.word))) x2.rune)).length eO),aD (z.word++(fC x2.rune))]) rfl (fun _=>by kernel_rfl)) ?_;refine .ac (.buildSlice [(.agg #[U x2.to,(.slice eN (fM (q.length+1) d (fH d q (dX q.length d (ft q d (dZ z.word))) x2.rune)).length eO),aD (z.word++(fC x2.rune))]:Value)] underlying229 sA rfl rfl rfl b0 fun pK r0 gQ hf ka gA=>?_);have lj:=aq.eA (enc:=q') gA ([(hA.mk x2.to (cL.mk eN (fM (q.length+1) d (fH d q (dX q.length d (ft q d (dZ z.word))) x2.rune)).length eO) (z.word++(fC x2.rune)))]:List hA) 1 rfl rfl eS;have gO:=(gu.hI gQ hf ka lj).n8;obtain ⟨g8,f23,me,o3⟩:=gO.b' 0;have f24:=gO.gh 7 0;refine .ac (.append f23 underlying229 sA rfl AU IS rfl rfl (f24) ol fy fun v5 g7 Dm dV kH kS vH=>?_);have gP:=(o3 _ _ _ _ kH dV kS).n8;clear kS;have jb:=(gP.freeze (i:=6) rfl).n8;have j3:=(jb.aQ [0,2,3,4,5,7] 1 6).n7;have lI:=(j3.ty (fc lz (km++[((.slice eN (fM (q.length+1) d (fH d q (dX q.length d (ft q d (dZ z.word))) x2.rune)).length eO),(fM (q.length+1) d (fH d q (dX q.length d (ft q d (dZ z.word))) x2.rune)))])) 6 rfl (fun ei bR=>IQ bR)).n7;have Ke:=nM.push hd.1 sL dN l' F6 (sh:=cL.mk eN (fM (q.length+1) d (fH d q (dX q.length d (ft q d (dZ z.word))) x2.rune)).length eO) (L:=(fM (q.length+1) d (fH d q (dX q.length d (ft q d (dZ z.word))) x2.rune))) (wd:=z.word++fC x2.rune) lN oA jI rfl (by rw [oR]) th vV qA;refine .go 5 rfl ?_;refine .z (.h3 (i-1) rfl rfl jD) ?_;have pg:=(lI.dB [0,6,1,2,3]).cU;refine .ae 2 rfl ?_;exact (f' _ _ _ ⟨(v5:Value),((mi++[(hA.mk x2.to (cL.mk eN (fM (q.length+1) d (fH d q (dX q.length d (ft q d (dZ z.word))) x2.rune)).length eO) (z.word++(fC x2.rune)))]):List hA),((i-1):Int),((k3++[hb.mk yb (fT.2,qi) (z.word++en fT.1)]):List hb),((km++[((.slice eN (fM (q.length+1) d (fH d q (dX q.length d (ft q d (dZ z.word))) x2.rune)).length eO),(fM (q.length+1) d (fH d q (dX q.length d (ft q d (dZ z.word))) x2.rune)))]):List (Value×List Pos)),rfl,rfl,pg,zv,zu,zs,zt,zw⟩ jD).sub bj
          refine .ae 1 rfl ?_;have dD:=(cJ.dB [0,1,4]).cv;refine .ae 3 rfl ?_;exact (b1 _ _ _ ⟨(nV:Value),(mi:List hA),(k3:List hb),(km:List (Value×List Pos)),(ew:b9),rfl,rfl,dD,Kl,Ki,Kh,Kg,Kf⟩ Kk).sub bj
      refine .go 20 rfl ?_;have f8:=bq.k 3;refine .a7 Fp aK f8 ?_;have f9:=hy.AT p1 bq.mod F9;refine .ac (.aH Da rfl (Dg (w0:=c8)  (z.n:Int) f9 (Nat.le_trans pY bq.mod.size) cN F8 (by first|assumption|(simp; done))) ?_);rintro v3 dA ⟨⟨iq,ah,b7⟩,b2⟩;have b5:=(bq.fR b2 ah b7).cU;clear b7;have uB:(nodeAt (fV s) (z.n:Int)).2=z.x.2:=(by rw [p8]);have vI:=Cr iB (z.n:Int);rw [uB] at vI;have bS:au az F w0 dA [aP q' 228 3 v2 (hr.take (hr.length-1)),fc lz V,A ew,aw bI [U (z.n:Int),zx.val,aD z.word] 228,aP e2 233 2 v3 z.x.2]:=(by rw [←uB]; exact b5);have bG:fq f dG (p7 words q d)=fq f ew (mM q d z 0++mL q d mu):=Nk fW (fun al=>by first|exact CW mC (qJ.2 al.2)|exact CX mC (qJ.2 al.2)|exact absurd al.1 (by simp [*]));have ch:l7 ok f ew (mM q d z 0++mL q d mu):=Nl pt (fun al=>by first|exact CW mC (qJ.2 al.2)|exact CX mC (qJ.2 al.2)|exact absurd al.1 (by simp [*]));obtain ⟨g3,f10,jv,dK⟩:=bS.b' 4;refine .go 5 rfl ?_;refine .z (.ct underlying219 (f10.cj) rfl) ?_;refine .z (.h3 ((z.x.2.length:Int)-1) rfl rfl jD) ?_;have cJ:=(bS.dB [0,1,3,4,2]).cU;refine .ae 3 rfl ?_;refine dU (I:=fun m E W=>∃ (nV:Value) (mi:List hA) (i:Int) (k3:List hb) (km:List (Value×List Pos)),E=[(0,ju),(1,mg),(2,U d),(3,.func (.func kO) first.toArray cap.toArray),(8,nV),(9,ptr bI 0),(12,v3),(13,U i)]∧m=(i+1).toNat∧au az F w0 W [aP q' 228 3 nV mi,fc lz km,aw bI [U (z.n:Int),zx.val,aD z.word] 228,aP e2 233 2 v3 z.x.2,A ew]∧(c3 (nM q d s km) mi k3)∧(∀ x∈V,x∈km)∧(mL q d k3=mM q d z (i+1).toNat++mL q d mu)∧(q9 k3≤q9 mu+q_ (ha (fG z.x.1)) (i+1).toNat)∧(-1≤i∧i < (z.x.2.length:Int))) ?_ ?_
      · refine ⟨_,_,⟨(v2:Value),((hr.take (hr.length-1)):List hA),(((z.x.2.length:Int)-1):Int),(mu:List hb),(V:List (Value×List Pos)),rfl,rfl,cJ,(by exact cq),(by exact fun x ag=>ag),Kj,jD,jD⟩,bj⟩
      · rintro _ _ eM ⟨nV,mi,i,k3,km,rfl,rfl,ck,sL,yg,Bn,DG,x_⟩ f';refine .go 4 rfl ?_;refine .bg (.ge rfl rfl) (fun cw=>?_) fun cw=>?_
        · refine .ae 1 rfl ?_;obtain ⟨g4,f11,ja,hs⟩:=ck.b' 3;obtain ⟨x2,hB,ie,c5,e0,nq,eC⟩:=aq.jJ f11.cj underlying219 eP lu (k:=.i64) (n:=i) ((i).toNat) jD aU;refine .go 8 rfl ?_;refine .z (.indexAddr rfl rfl e0) ?_;obtain ⟨fT,yb,qi,kJ,lN,qA,oA,jI,FU⟩:=AD F7 w1 c5;obtain ⟨vf,rfl,th⟩:=Cs w1 Km kJ;have oR:fC x2.rune=en fT.1:=(by rw [lN]; exact yH jI);have Bo:=xx fT.1;have O1:(fC x2.rune).length≤4:=(by rw [oR]; exact Bo);have pI:0≤x2.rune∧x2.rune≤1114111:=(by rw [lN]; have:=jI.1; omega);have F5:=IM (q:=q) (d:=d) kJ;have oI:=IP kJ;have O2:=E_ fT.2;have O3:=CV sL;have O4:=IT (ha (fG z.x.1)) (i+1).toNat;refine .z (.cB eP rfl (fun _ e=>e▸eC) rfl) ?_;refine .ac (.alloc eP fun ff kv cC dw hc df=>?_);have dD:=(ck.cS cC dw df).n6;have f12:=dD.k 5;refine .ac (.store eP rfl rfl rfl rfl rfl f12 dm fun fv dg g_ e5=>?_);have ek:=(dD.db 5 dg e5.c2).n6;refine .go 5 rfl ?_;have f13:=ek.k 2;refine .a7 Fq Fl f13 ?_;have f14:=ek.k 5;refine .a7 rf hX f14 ?_;have f15:=ek.out dM cb;have f16:=ek.Fa (i:=1) rfl (yg _ F_);refine .ac (.aH Jl rfl (Kb (w0:=fv) (q:=q) (s:=(ft q d (dZ z.word))) (d) (x2.rune) (f15.mono (fun b ab=>⟨Nat.zero_le _,Nat.lt_of_lt_of_le (dE b ab) ek.mod.size⟩)) cN f16 cN aU aU aU) ?_);rintro v4 ht ⟨⟨qb,aB,eJ⟩,dn⟩;have eE:=(ek.fR dn aB eJ).n7;clear eJ;obtain ⟨g5,f17,mz,jA⟩:=eE.b' 6;refine .go 5 rfl ?_;refine .ac (.aH Jm rfl (Kd (w0:=ht) (s:=(fM (q.length+1) d (fH d q (dX q.length d (ft q d (dZ z.word))) x2.rune)))  (f17.cj.cz (Nat.zero_le _) f17.lt)) ?_);rintro _ jm ⟨⟨lH,dH,rfl⟩,dS⟩;have et:=eE.ext dS;cases lH
          case true =>
           replace dH:=dH.symm;refine .z (.not rfl) ?_;refine .go 6 rfl ?_;refine .z (.h3 (i-1) rfl rfl jD) ?_;have gu:=(et.dB [0,1,2,3,4]).cU;refine .ae 2 rfl ?_;exact (f' _ _ _ ⟨(nV:Value),(mi:List hA),((i-1):Int),(k3:List hb),(km:List (Value×List Pos)),rfl,rfl,gu,zv,zu,zs,zt,zw⟩ jD).sub bj
          replace dH:=dH.symm;refine .z (.not rfl) ?_;refine .go 4 rfl ?_;have f18:=et.k 5;refine .a7 rh aK f18 ?_;refine .go 1 rfl ?_;have f19:=et.k 2;refine .a7 Fs dI f19 ?_;refine .a7 rf hX f18 ?_;refine .z (.vX c6 underlying9 rfl) ?_;refine .z (.uR rfl rfl vE) ?_;obtain ⟨g6,f20,mS,p4⟩:=et.b' 6;obtain ⟨eN,eO,ki⟩:=f20.shape;subst ki;refine .z (.build (vs:=#[(0,(U x2.to:Value)),(1,(.slice eN (fM (q.length+1) d (fH d q (dX q.length d (ft q d (dZ z.word))) x2.rune)).length eO)),(2,aD (z.word++(fC x2.rune)))]) (v:=.agg #[U x2.to,(.slice eN (fM (q.length+1) d (fH d q (dX q.length d (ft q d (dZ z.word))) x2.rune)).length eO),aD (z.word++(fC x2.rune))]) rfl (fun _=>by kernel_rfl)) ?_;refine .ac (.buildSlice [(.agg #[U x2.to,(.slice eN (fM (q.length+1) d (fH d q (dX q.length d (ft q d (dZ z.word))) x2.rune)).length eO),aD (z.word++(fC x2.rune))]:Value)] underlying229 sA rfl rfl rfl b0 fun lU pf eW fg ka gA=>?_);have lj:=aq.eA (enc:=q') gA ([(hA.mk x2.to (cL.mk eN (fM (q.length+1) d (fH d q (dX q.length d (ft q d (dZ z.word))) x2.rune)).length eO) (z.word++(fC x2.rune)))]:List hA) 1 rfl rfl eS;have fw:=(et.hI eW fg ka lj).n8;obtain ⟨g8,f21,me,o3⟩:=fw.b' 0;have f22:=fw.gh 7 0;refine .ac (.append f21 underlying229 sA rfl AU IS rfl rfl (f22) ol fy fun v5 g7 pK dV gQ kS vH=>?_);have gO:=(o3 _ _ _ _ gQ dV kS).n8;clear kS;have gP:=(gO.freeze (i:=6) rfl).n8;have jb:=(gP.aQ [0,2,3,4,5,7] 1 6).n7;have j3:=(jb.ty (fc lz (km++[((.slice eN (fM (q.length+1) d (fH d q (dX q.length d (ft q d (dZ z.word))) x2.rune)).length eO),(fM (q.length+1) d (fH d q (dX q.length d (ft q d (dZ z.word))) x2.rune)))])) 6 rfl (fun ei bR=>IQ bR)).n7;have Ke:=nM.push hd.1 sL dN l' F6 (sh:=cL.mk eN (fM (q.length+1) d (fH d q (dX q.length d (ft q d (dZ z.word))) x2.rune)).length eO) (L:=(fM (q.length+1) d (fH d q (dX q.length d (ft q d (dZ z.word))) x2.rune))) (wd:=z.word++fC x2.rune) lN oA jI rfl (by rw [oR]) th vV qA;refine .go 5 rfl ?_;refine .z (.h3 (i-1) rfl rfl jD) ?_;have lI:=(j3.dB [0,6,1,2,3]).cU;refine .ae 2 rfl ?_;exact (f' _ _ _ ⟨(v5:Value),((mi++[(hA.mk x2.to (cL.mk eN (fM (q.length+1) d (fH d q (dX q.length d (ft q d (dZ z.word))) x2.rune)).length eO) (z.word++(fC x2.rune)))]):List hA),((i-1):Int),((k3++[hb.mk yb (fT.2,qi) (z.word++en fT.1)]):List hb),((km++[((.slice eN (fM (q.length+1) d (fH d q (dX q.length d (ft q d (dZ z.word))) x2.rune)).length eO),(fM (q.length+1) d (fH d q (dX q.length d (ft q d (dZ z.word))) x2.rune)))]):List (Value×List Pos)),rfl,rfl,lI,zv,zu,zs,zt,zw⟩ jD).sub bj
        refine .ae 1 rfl ?_;have da:=(ck.dB [0,1,4]).cv;refine .ae 3 rfl ?_;exact (b1 _ _ _ ⟨(nV:Value),(mi:List hA),(k3:List hb),(km:List (Value×List Pos)),(ew:b9),rfl,rfl,da,Kl,Ki,Kh,Kg,Kf⟩ Kk).sub bj
     replace br:=br.symm;refine .go 23 rfl ?_;have f8:=bq.k 3;refine .a7 Fp aK f8 ?_;have f9:=hy.AT p1 bq.mod F9;refine .ac (.aH Da rfl (Dg (w0:=c8)  (z.n:Int) f9 (Nat.le_trans pY bq.mod.size) cN F8 (by first|assumption|(simp; done))) ?_);rintro v3 dA ⟨⟨iq,ah,b7⟩,b2⟩;have b5:=(bq.fR b2 ah b7).cU;clear b7;have uB:(nodeAt (fV s) (z.n:Int)).2=z.x.2:=(by rw [p8]);have vI:=Cr iB (z.n:Int);rw [uB] at vI;have bS:au az F w0 dA [aP q' 228 3 v2 (hr.take (hr.length-1)),fc lz V,A ew,aw bI [U (z.n:Int),zx.val,aD z.word] 228,aP e2 233 2 v3 z.x.2]:=(by rw [←uB]; exact b5);have bG:fq f dG (p7 words q d)=fq f ew (mM q d z 0++mL q d mu):=Nk fW (fun al=>by first|exact CW mC (qJ.2 al.2)|exact CX mC (qJ.2 al.2)|exact absurd al.1 (by simp [*]));have ch:l7 ok f ew (mM q d z 0++mL q d mu):=Nl pt (fun al=>by first|exact CW mC (qJ.2 al.2)|exact CX mC (qJ.2 al.2)|exact absurd al.1 (by simp [*]));obtain ⟨g3,f10,jv,dK⟩:=bS.b' 4;refine .go 5 rfl ?_;refine .z (.ct underlying219 (f10.cj) rfl) ?_;refine .z (.h3 ((z.x.2.length:Int)-1) rfl rfl jD) ?_;have cJ:=(bS.dB [0,1,3,4,2]).cU;refine .ae 3 rfl ?_;refine dU (I:=fun m E W=>∃ (nV:Value) (mi:List hA) (i:Int) (k3:List hb) (km:List (Value×List Pos)),E=[(0,ju),(1,mg),(2,U d),(3,.func (.func kO) first.toArray cap.toArray),(8,nV),(9,ptr bI 0),(12,v3),(13,U i)]∧m=(i+1).toNat∧au az F w0 W [aP q' 228 3 nV mi,fc lz km,aw bI [U (z.n:Int),zx.val,aD z.word] 228,aP e2 233 2 v3 z.x.2,A ew]∧(c3 (nM q d s km) mi k3)∧(∀ x∈V,x∈km)∧(mL q d k3=mM q d z (i+1).toNat++mL q d mu)∧(q9 k3≤q9 mu+q_ (ha (fG z.x.1)) (i+1).toNat)∧(-1≤i∧i < (z.x.2.length:Int))) ?_ ?_
     · refine ⟨_,_,⟨(v2:Value),((hr.take (hr.length-1)):List hA),(((z.x.2.length:Int)-1):Int),(mu:List hb),(V:List (Value×List Pos)),rfl,rfl,cJ,(by exact cq),(by exact fun x ag=>ag),Kj,jD,jD⟩,bj⟩
     · rintro _ _ eM ⟨nV,mi,i,k3,km,rfl,rfl,ck,sL,yg,Bn,DG,x_⟩ f';refine .go 4 rfl ?_;refine .bg (.ge rfl rfl) (fun cE=>?_) fun cE=>?_
       · refine .ae 1 rfl ?_;obtain ⟨g4,f11,ja,hs⟩:=ck.b' 3;obtain ⟨x2,gN,ie,c5,e0,nq,eC⟩:=aq.jJ f11.cj underlying219 eP lu (k:=.i64) (n:=i) ((i).toNat) jD aU;refine .go 8 rfl ?_;refine .z (.indexAddr rfl rfl e0) ?_;obtain ⟨fT,yb,qi,kJ,lN,qA,oA,jI,FU⟩:=AD F7 w1 c5;obtain ⟨vf,rfl,th⟩:=Cs w1 Km kJ;have oR:fC x2.rune=en fT.1:=(by rw [lN]; exact yH jI);have Bo:=xx fT.1;have O1:(fC x2.rune).length≤4:=(by rw [oR]; exact Bo);have pI:0≤x2.rune∧x2.rune≤1114111:=(by rw [lN]; have:=jI.1; omega);have F5:=IM (q:=q) (d:=d) kJ;have oI:=IP kJ;have O2:=E_ fT.2;have O3:=CV sL;have O4:=IT (ha (fG z.x.1)) (i+1).toNat;refine .z (.cB eP rfl (fun _ e=>e▸eC) rfl) ?_;refine .ac (.alloc eP fun ff hB cC cw hc df=>?_);have dD:=(ck.cS cC cw df).n6;have f12:=dD.k 5;refine .ac (.st eP f12 fun fv dg e5=>?_);have ek:=(dD.db 5 dg e5.c2).n6;refine .go 5 rfl ?_;have f13:=ek.k 2;refine .a7 Fq Fl f13 ?_;have f14:=ek.k 5;refine .a7 rf hX f14 ?_;have f15:=ek.out dM cb;have f16:=ek.Fa (i:=1) rfl (yg _ F_);refine .ac (.aH Jl rfl (Kb (w0:=fv) (q:=q) (s:=(ft q d (dZ z.word))) (d) (x2.rune) (f15.mono (fun b ab=>⟨Nat.zero_le _,Nat.lt_of_lt_of_le (dE b ab) ek.mod.size⟩)) cN f16 cN aU aU aU) ?_);rintro v4 ht ⟨⟨qb,aB,eJ⟩,dn⟩;have eE:=(ek.fR dn aB eJ).n7;clear eJ;obtain ⟨g5,f17,mz,jA⟩:=eE.b' 6;refine .go 5 rfl ?_;refine .ac (.aH Jm rfl (Kd (w0:=ht) (s:=(fM (q.length+1) d (fH d q (dX q.length d (ft q d (dZ z.word))) x2.rune)))  (f17.cj.cz (Nat.zero_le _) f17.lt)) ?_);rintro _ jm ⟨⟨kv,dw,rfl⟩,dS⟩;have et:=eE.ext dS;cases kv
         case true =>
          replace dw:=dw.symm;refine .z (.not rfl) ?_;refine .go 6 rfl ?_;refine .z (.h3 (i-1) rfl rfl jD) ?_;have gu:=(et.dB [0,1,2,3,4]).cU;refine .ae 2 rfl ?_;exact (f' _ _ _ ⟨(nV:Value),(mi:List hA),((i-1):Int),(k3:List hb),(km:List (Value×List Pos)),rfl,rfl,gu,zv,zu,zs,zt,zw⟩ jD).sub bj
         replace dw:=dw.symm;refine .z (.not rfl) ?_;refine .go 4 rfl ?_;have f18:=et.k 5;refine .a7 rh aK f18 ?_;refine .go 1 rfl ?_;have f19:=et.k 2;refine .a7 Fs dI f19 ?_;refine .a7 rf hX f18 ?_;refine .z (.vX c6 underlying9 rfl) ?_;refine .z (.uR rfl rfl vE) ?_;obtain ⟨g6,f20,mS,p4⟩:=et.b' 6;obtain ⟨eN,eO,ki⟩:=f20.shape;subst ki;refine .z (.build (vs:=#[(0,(U x2.to:Value)),(1,(.slice eN (fM (q.length+1) d (fH d q (dX q.length d (ft q d (dZ z.word))) x2.rune)).length eO)),(2,aD (z.word++(fC x2.rune)))]) (v:=.agg #[U x2.to,(.slice eN (fM (q.length+1) d (fH d q (dX q.length d (ft q d (dZ z.word))) x2.rune)).length eO),aD (z.word++(fC x2.rune))]) rfl (fun _=>by kernel_rfl)) ?_;refine .ac (.buildSlice [(.agg #[U x2.to,(.slice eN (fM (q.length+1) d (fH d q (dX q.length d (ft q d (dZ z.word))) x2.rune)).length eO),aD (z.word++(fC x2.rune))]:Value)] underlying229 sA rfl rfl rfl b0 fun lU lH eW dH ka gA=>?_);have lj:=aq.eA (enc:=q') gA ([(hA.mk x2.to (cL.mk eN (fM (q.length+1) d (fH d q (dX q.length d (ft q d (dZ z.word))) x2.rune)).length eO) (z.word++(fC x2.rune)))]:List hA) 1 rfl rfl eS;have fw:=(et.hI eW dH ka lj).n8;obtain ⟨g8,f21,me,o3⟩:=fw.b' 0;have f22:=fw.gh 7 0;refine .ac (.append f21 underlying229 sA rfl AU IS rfl rfl (f22) ol fy fun v5 g7 pK dV gQ kS vH=>?_);have gO:=(o3 _ _ _ _ gQ dV kS).n8;clear kS;have gP:=(gO.freeze (i:=6) rfl).n8;have jb:=(gP.aQ [0,2,3,4,5,7] 1 6).n7;have j3:=(jb.ty (fc lz (km++[((.slice eN (fM (q.length+1) d (fH d q (dX q.length d (ft q d (dZ z.word))) x2.rune)).length eO),(fM (q.length+1) d (fH d q (dX q.length d (ft q d (dZ z.word))) x2.rune)))])) 6 rfl (fun ei bR=>IQ bR)).n7;have Ke:=nM.push hd.1 sL dN l' F6 (sh:=cL.mk eN (fM (q.length+1) d (fH d q (dX q.length d (ft q d (dZ z.word))) x2.rune)).length eO) (L:=(fM (q.length+1) d (fH d q (dX q.length d (ft q d (dZ z.word))) x2.rune))) (wd:=z.word++fC x2.rune) lN oA jI rfl (by rw [oR]) th vV qA;refine .go 5 rfl ?_;refine .z (.h3 (i-1) rfl rfl aa) ?_;have lI:=(j3.dB [0,6,1,2,3]).cU;refine .ae 2 rfl ?_;exact (f' _ _ _ ⟨(v5:Value),((mi++[(hA.mk x2.to (cL.mk eN (fM (q.length+1) d (fH d q (dX q.length d (ft q d (dZ z.word))) x2.rune)).length eO) (z.word++(fC x2.rune)))]):List hA),((i-1):Int),((k3++[hb.mk yb (fT.2,qi) (z.word++en fT.1)]):List hb),((km++[((.slice eN (fM (q.length+1) d (fH d q (dX q.length d (ft q d (dZ z.word))) x2.rune)).length eO),(fM (q.length+1) d (fH d q (dX q.length d (ft q d (dZ z.word))) x2.rune)))]):List (Value×List Pos)),rfl,rfl,lI,zv,zu,zs,zt,zw⟩ jD).sub bj
       refine .ae 1 rfl ?_;have da:=(ck.dB [0,1,4]).cv;refine .ae 3 rfl ?_;exact (b1 _ _ _ ⟨(nV:Value),(mi:List hA),(k3:List hb),(km:List (Value×List Pos)),(ew:b9),rfl,rfl,da,Kl,Ki,Kh,Kg,Kf⟩ Kk).sub bj
   refine .ae 3 rfl ?_;refine kp func100 rfl ?_;have bm:=(bd.dB [2]).cf;have ow:(fq f dG (p7 words q d)).1=ew:=(by first|(rw [V1 fW ⟨Aa,qJ.1 (Fc mC mC)⟩ mC]; done)|(rw [fW,V5 vZ jD]; rfl));obtain ⟨cF,cW,cX,cQ⟩:=bm.fin;exact an.mk ⟨rfl,cF,cW,ow▸cX,cQ⟩
end Go.Proofs
namespace Go.Proofs
open Tryz
open Go.aG Go.ak
theorem ak3{w0:World}{a:b4}{b:b4}:
 bJ 90 #[.agg #[U a.cp,aD a.word],.agg #[U b.cp,aD b.word]] w0 (an λaC ai=>aC=U (ak.No a b)/\Ext w0 ai):=by
 have bB:=eD w0;refine bP func90 rfl ntmps90 rfl (.go 2 rfl (.ac (.box [U a.cp,aD a.word] rfl rfl λai aL av aF cq aW=>have bE:=bB.ext av;.ac (.box [U b.cp,aD b.word] rfl rfl λaZ aQ aA aJ ec bQ=>have f1:=aW.ext aA;have bG:=bE.ext aA;.ae 3 rfl (eT (λi=>Nat.beq i 4 || Nat.beq i 9 || Nat.beq i 10 || Nat.beq i 11) 13 (λao=>Mod (b3 0) aZ ao) mixed λbp aM=>have ch:=bG.ext aM;have jC:Mod (b3 0) aZ bp:=Mod.gb aM;⟨jC,?_⟩)))));refine .z rfl (.fieldAddr xW rfl) (.z rfl (.ca aK rfl (λ_ al=>(f1.cell 0 _ rfl).bF al aa)) (.z rfl (.fieldAddr xW rfl) (.z rfl (.ca aK rfl (λ_ al=>(bQ.cell 0 _ rfl).bF al aa)) (.ac rfl (.aH Xs rfl (XH (w0:=bp)  (a.cp) (b.cp) ) ?_)))));rintro _ bX ⟨rfl,aY⟩;have eL:=ch.ext aY;have jt:=jC.ext aY;refine⟨.inr jt,.z rfl (.fieldAddr A0 rfl) (.z rfl (.ca dI rfl (λ_ al=>(f1.cell 1 _ rfl).bF al aa)) (.z rfl (.fieldAddr A0 rfl) (.z rfl (.ca dI rfl (λ_ al=>(bQ.cell 1 _ rfl).bF al aa)) (.ac rfl (.aH NS rfl (N0 (w0:=bX)  a.word b.word ) ?_)))))⟩;rintro _ cH ⟨rfl,bu,nP⟩;have fI:=eL.ext bu;have my:=jt.ext bu;refine⟨.inr my,.ac rfl (.buildSlice [(U (ak.po a.cp b.cp):Value),(U (Lib.compareBytes a.word b.word):Value)] underlying57 aK rfl rfl rfl b0 λc8 bx b2 aX fF cP=>have iG:=fI.ext b2;have lR:=my.ext b2;⟨.inr lR,(have cu:=aq.eA (enc:=aG.encI) cP ([(ak.po a.cp b.cp),(Lib.compareBytes a.word b.word)]:List Int) 2 rfl rfl eS;.ac rfl (.aH Xr rfl (XI (w0:=c8) (vals:=[(ak.po a.cp b.cp),(Lib.compareBytes a.word b.word)])  ((cu).cz (Nat.zero_le _) aa)) ?_))⟩)⟩;rintro _ dA ⟨rfl,cC⟩;have kl:=iG.ext cC;have lg:=lR.ext cC;exact⟨.inr lg,.gd 1 rfl (.nil (aN func90 rfl rfl (an.mk ⟨(cR dC),kl⟩)))⟩
theorem ak4{w0:World}{a:b4}{b:b4}:
 bJ 44 #[.agg #[U a.cp,aD a.word],.agg #[U b.cp,aD b.word]] w0 (an λaC ai=>(∃cr:Bool,cr=(ak.oe a b)/\aC=.bool cr)/\Ext w0 ai):=by
 have bB:=eD w0;refine bP func44 rfl ntmps44 rfl (.go 2 rfl (.ac (.box [U a.cp,aD a.word] rfl rfl λai aL av aF cq aW=>have bE:=bB.ext av;.ac (.box [U b.cp,aD b.word] rfl rfl λaZ aQ aA aJ ec bQ=>have f1:=aW.ext aA;have bG:=bE.ext aA;.go 4 rfl (.z (.cB gy rfl (λ_ e=>e▸f1.row) rfl) ?_)))));refine .z (.cB gy rfl (λ_ e=>e▸bQ.row) rfl) ?_;refine .ac (.aH aix rfl (ak3 (w0:=aZ) (a:=a) (b:=b)  ) ?_);rintro _ bp ⟨rfl,aM⟩;have ch:=bG.ext aM;exact .dY (.lt rfl rfl) λbx aX=>.ae 2 rfl (aN func44 rfl rfl (an.mk ⟨⟨_,(by first|simp only[ak.oe, *]|(exfalso;omega)),rfl⟩,ch⟩))
end Go.Proofs
namespace Go.Proofs
open Tryz
open Go.aG Go.ak
theorem w2{p:Prop}(h:p:=by first|exact ag6 (by first|exact V6|exact V7 aa|exact V8 bk)|(symm;exact(by first|exact V6|exact V7 aa|exact V8 bk))|exact ag7 (IU bk aa bk)|(rw[(IU bk aa bk),<-IV (s:=s) bk];assumption)|(exfalso;omega)):p:=h
theorem Yr{p:Prop}(h:p:=by omega):p:=h
theorem ak5{w0:World}{ju:Value}{gV fb:Nat}{g:List cy}(s:aj)(k:Int)(qF:hy 0 w0 gV fb ju g)(x1:fb<=w0.heap.size)(ye:b6 k)(aT:s.length<=1000000):
 bJ 99 #[ju,aD s,U k] w0 (an λaC ai=>∃eR gi,aC=.tuple #[eR,gi]/\aq iK ai (dq w0.heap.size ai.heap.size) eR (jk g s k)/\(∃cr:Bool,cr=(pA g s k)/\gi=.bool cr)/\Ext w0 ai):=by
 have bB:=eD w0;refine bP func99 rfl ntmps99 rfl (have pI:=qF;.go 9 rfl ?_);rcases qF with ⟨ef,rX⟩|⟨aL,x3,iR,ef,rX,Dd,De,x4⟩
 . subst ef;try subst rX
   exact .z (.l5 underlying99 rfl rfl) (.ae 20 rfl (cM func99 rfl rfl rfl (an.mk ⟨_,_,rfl,(aq.cast aq.nil w2),⟨_,w2,rfl⟩,bB⟩)))
 . subst ef;refine .z (.l5 underlying99 rfl rfl) (.go 2 rfl (.bg (.lt rfl rfl) (λaF=>?_) λaF=>?_))
   . exact .ae 17 rfl (cM func99 rfl rfl rfl (an.mk ⟨_,_,rfl,(aq.cast aq.nil w2),⟨_,w2,rfl⟩,bB⟩))
   refine .go 3 rfl (.bg (.gt rfl rfl) (λaJ=>?_) λaJ=>?_)
   . exact .ae 13 rfl (cM func99 rfl rfl rfl (an.mk ⟨_,_,rfl,(aq.cast aq.nil w2),⟨_,w2,rfl⟩,bB⟩))
   refine .go 3 rfl (.ac (.aH NU rfl (N2 (w0:=w0)  s aU) ?_));rintro _ ai ⟨⟨bI,aX,rfl⟩,av⟩;have bE:=bB.ext av;have gZ:=av.size;cases bI
   case true =>
    replace aX:=aX.symm;refine .z (.not rfl) (.go 7 rfl (.ac (.aH aiG rfl (ajf (w0:=ai)  s (by first|assumption|omega|(simp;done))) ?_)));rintro _ aZ ⟨v1,_,rfl,h1,⟨cA,br,rfl⟩,aA⟩;have bG:=bE.ext aA;exact .ae 5 rfl (cM func99 rfl rfl rfl (an.mk ⟨_,_,rfl,(aq.cast (h1.cz Yr Yr) w2),⟨_,w2,rfl⟩,bG⟩))
   replace aX:=aX.symm;exact .z (.not rfl) (.ae 8 rfl (cM func99 rfl rfl rfl (an.mk ⟨_,_,rfl,(aq.cast aq.nil w2),⟨_,w2,rfl⟩,bE⟩)))
theorem rn{p:Prop}(h:p:=by first|exact .inl rfl|exact .inr bk):p:=h
theorem nv{p:Prop}(h:p:=by assumption):p:=h
theorem ak6{w0:World}{F:Nat->Prop}{e7 e9 di rp pr kD:Nat}{l:List b4}{more:Bool}(x:aj)(d batch:Int)(first:Bool)(after:b4)(hd:b6 d)(Ys:b6 batch)(Kn:b6 after.cp)(Bp:after.word.length<=1000000)(bf:(bh (R:=az) [qB (R:=az) 47 33 4 e7 e9 (l,more),aw di [U d] 3,aw rp [.bool first] 4,aw pr [U after.cp,aD after.word] 33,aw kD [U batch] 3]).p F w0)(bs:∀b,F b->b<w0.heap.size)(A6:l.length<=1000000):
 bJ 101 #[aD x,ptr di 0,ptr rp 0,ptr pr 0,ptr e7 0,ptr kD 0,ptr e9 0] w0 (an λaC ai=>aC=.bool (mv first after batch d (l,more) x).2/\Mod F w0 ai/\∃bz,(bh (R:=az) [qB (R:=az) 47 33 4 e7 e9 ((mv first after batch d (l,more) x).1),aw di [U d] 3,aw rp [.bool first] 4,aw pr [U after.cp,aD after.word] 33,aw kD [U batch] 3]).p bz ai/\∀b,bz b->b<ai.heap.size/\(F b\/w0.heap.size<=b)):=by
 have dR:=au.hh bf (λb ab=>⟨bs b ab,id⟩) (λ_ h=>h.elim);have bw:=(dR.u 0 []).cU;obtain⟨fJ,a6⟩:=bw.fB 0;change au az F w0 w0 [bh [aw e7 [fJ] 47,aP eK 33 2 fJ ((l,more).1),aw e9 [.bool (l,more).2] 4],aw di [U d] 3,aw rp [.bool first] 4,aw pr [U after.cp,aD after.word] 33,aw kD [U batch] 3] at a6;have bc:=(a6.u 0 [1,2,3,4]).n7;have a1:au az F w0 w0 [aw di [U d] 3,aw rp [.bool first] 4,aw pr [U after.cp,aD after.word] 33,aw kD [U batch] 3,aw e7 [fJ] 47,aP eK 33 2 fJ l,aw e9 [.bool more] 4]:=bc;refine bP func101 rfl ntmps101 rfl (have f1:=a1.k 0;.go 6 rfl (.z (.e8 aK f1) ?_));refine .go 1 rfl (.z (.build (vs:=#[(0,(U d:Value)),(1,aD x)]) (v:=.agg #[U d,aD x]) rfl (λ_=>by kernel_rfl)) (.ac (.alloc gy λai aL av aF cq aW=>?_)));have ba:=(a1.cS av aF aW).n8;have f2:=ba.k 7;refine .ac (.st gy f2 λaZ aA bQ=>?_);have bm:=(ba.db 7 aA bQ.c2).n8;have f3:=bm.k 1;refine .go 5 rfl (.z (.e8 fe f3) ?_)
 cases first
 case true =>
  refine .z (.not rfl) (have f4:=bm.k 4;.go 11 rfl (.z (.e8 tl f4) ?_));obtain⟨g1,f5,cu,bt⟩:=bm.b' 5;refine .z (.ct underlying47 (f5.cj) rfl) (have f6:=bm.k 3;.z (.e8 aK f6) (.gk (.eq rfl rfl) (λaJ=>?_) λaJ=>?_))
  . refine .ae 2 rfl (have f7:=bm.k 6;.go 2 rfl (.ac (.store fe rfl rfl rfl rfl rfl f7 dm λbp aM fF cP=>?_)));have bN:=(bm.db 6 aM cP.c1).n8;have f8:=bN.k 6;refine .go 4 rfl (.z (.e8 fe f8) (.z (.not rfl) ?_));refine .ae 2 rfl (aN func101 rfl rfl ?_);have bC:=(bN.bx [0,1,2,3,7] 4 5 6).n6;have bL:au az F w0 bp [aw di [U d] 3,aw rp [.bool true] 4,aw pr [U after.cp,aD after.word] 33,aw kD [U batch] 3,aw aL [U d,aD x] 33,qB 47 33 4 e7 e9 (l,true)]:=bC.fr fJ (i:=5) rfl;have bq:=(bL.cA [4] 5 0 1 2 3).bM;have bO:=(bq.dB [1]).cf;obtain⟨cF,cW,cX,cQ⟩:=bO.fin;have nW:mv true after batch d (l,more) x=((l,true),false):=(by first|exact xM nv|exact xN rn nv|exact xO rn nv);exact an.mk ⟨by rw[nW];rfl,cF,cW,by rw[nW];exact cX,cQ⟩
  refine .go 4 rfl (.z (.e8 tl f4) (have f7:=bm.k 7;.z (.cB gy rfl (λ_ e=>e▸f7.row) rfl) ?_));refine .ac (.buildSlice [(.agg #[U d,aD x]:Value)] underlying47 gy rfl rfl rfl b0 λbp bx aM aX fF cP=>?_);have dk:=aq.eA (enc:=eK) cP ([(b4.mk d x)]:List b4) 1 rfl rfl eS;have bC:=(bm.hI aM aX fF dk).ic;obtain⟨g3,f8,fa,cD⟩:=bC.b' 5;have f9:=bC.gh 8 0;refine .ac (.append f8 underlying47 gy rfl oD wC rfl rfl (f9) ol fy λv1 g2 bX b_ aY b7 hc=>?_);have bL:=(cD _ _ _ _ aY b_ b7).ic;clear b7;obtain⟨g4,f10,gI,dK⟩:=bL.b' 5;obtain⟨bY,bZ,ef⟩:=f10.shape;subst ef;have f11:=bL.k 4;refine .ac (.store tl rfl rfl rfl rfl rfl f11 dm λcH bu g_ df=>have bq:=(bL.db 4 bu df.c1).ic;have f12:=bq.k 6;.go 4 rfl (.z (.e8 fe f12) ?_));cases more
  case true =>
   refine .z (.not rfl) (.ae 2 rfl (aN func101 rfl rfl ?_));have bO:=(bq.bx [0,1,2,3,7,8] 4 5 6).n7;have b5:au az F w0 cH [aw di [U d] 3,aw rp [.bool true] 4,aw pr [U after.cp,aD after.word] 33,aw kD [U batch] 3,aw aL [U d,aD x] 33,fc eK [((.slice (some ⟨bx,0,none⟩) 1 1),[(b4.mk d x)])],qB 47 33 4 e7 e9 ((l++[(b4.mk d x)]),true)]:=bO.fr (.slice bY (l++[(b4.mk d x)]).length bZ) (i:=6) rfl;have bS:=(b5.cA [4,5] 6 0 1 2 3).cv;have ck:=(bS.dB [2]).cf;obtain⟨cF,cW,cX,cQ⟩:=ck.fin;have nW:mv true after batch d (l,true) x=(((l++[(b4.mk d x)]),true),false):=(by first|exact xM nv|exact xN rn nv|exact xO rn nv);exact an.mk ⟨by rw[nW];rfl,cF,cW,by rw[nW];exact cX,cQ⟩
  refine .z (.not rfl) (.ae 2 rfl (aN func101 rfl rfl ?_));have bO:=(bq.bx [0,1,2,3,7,8] 4 5 6).n7;have b5:au az F w0 cH [aw di [U d] 3,aw rp [.bool true] 4,aw pr [U after.cp,aD after.word] 33,aw kD [U batch] 3,aw aL [U d,aD x] 33,fc eK [((.slice (some ⟨bx,0,none⟩) 1 1),[(b4.mk d x)])],qB 47 33 4 e7 e9 ((l++[(b4.mk d x)]),false)]:=bO.fr (.slice bY (l++[(b4.mk d x)]).length bZ) (i:=6) rfl;have bS:=(b5.cA [4,5] 6 0 1 2 3).cv;have ck:=(bS.dB [2]).cf;obtain⟨cF,cW,cX,cQ⟩:=ck.fin;have nW:mv true after batch d (l,false) x=(((l++[(b4.mk d x)]),false),true):=(by first|exact xM nv|exact xN rn nv|exact xO rn nv);exact an.mk ⟨by rw[nW];rfl,cF,cW,by rw[nW];exact cX,cQ⟩
 refine .z (.not rfl) (have f4:=bm.k 2;.go 1 rfl (.z (.cB gy rfl (λ_ e=>e▸f4.row) rfl) ?_));have f5:=bm.k 7;refine .z (.cB gy rfl (λ_ e=>e▸f5.row) rfl) ?_;refine .ac (.aH ais rfl (ak4 (w0:=aZ) (a:=(b4.mk after.cp after.word)) (b:=(b4.mk d x))  ) ?_);rintro _ bp ⟨⟨aQ,aJ,rfl⟩,aM⟩;have bN:=bm.ext aM;cases aQ
 case true =>
  replace aJ:=aJ.symm;refine .z (.not rfl) (have f6:=bN.k 4;.go 6 rfl (.z (.e8 tl f6) ?_));obtain⟨g1,f7,cu,bt⟩:=bN.b' 5;refine .z (.ct underlying47 (f7.cj) rfl) (have f8:=bN.k 3;.z (.e8 aK f8) (.gk (.eq rfl rfl) (λaX=>?_) λaX=>?_))
  . refine .ae 2 rfl (have f9:=bN.k 6;.go 2 rfl (.ac (.store fe rfl rfl rfl rfl rfl f9 dm λbX aY fF cP=>?_)));have bC:=(bN.db 6 aY cP.c1).n8;have f10:=bC.k 6;refine .go 4 rfl (.z (.e8 fe f10) (.z (.not rfl) ?_));refine .ae 2 rfl (aN func101 rfl rfl ?_);have bL:=(bC.bx [0,1,2,3,7] 4 5 6).n6;have bq:au az F w0 bX [aw di [U d] 3,aw rp [.bool false] 4,aw pr [U after.cp,aD after.word] 33,aw kD [U batch] 3,aw aL [U d,aD x] 33,qB 47 33 4 e7 e9 (l,true)]:=bL.fr fJ (i:=5) rfl;have bO:=(bq.cA [4] 5 0 1 2 3).bM;have b5:=(bO.dB [1]).cf;obtain⟨cF,cW,cX,cQ⟩:=b5.fin;have nW:mv false after batch d (l,more) x=((l,true),false):=(by first|exact xM nv|exact xN rn nv|exact xO rn nv);exact an.mk ⟨by rw[nW];rfl,cF,cW,by rw[nW];exact cX,cQ⟩
  refine .go 4 rfl (.z (.e8 tl f6) (have f9:=bN.k 7;.z (.cB gy rfl (λ_ e=>e▸f9.row) rfl) ?_));refine .ac (.buildSlice [(.agg #[U d,aD x]:Value)] underlying47 gy rfl rfl rfl b0 λbX bI aY br fF cP=>?_);have dk:=aq.eA (enc:=eK) cP ([(b4.mk d x)]:List b4) 1 rfl rfl eS;have bL:=(bN.hI aY br fF dk).ic;obtain⟨g3,f10,fa,cD⟩:=bL.b' 5;have f11:=bL.gh 8 0;refine .ac (.append f10 underlying47 gy rfl oD wC rfl rfl (f11) ol fy λv1 g2 cH b_ bu b7 hc=>?_);have bq:=(cD _ _ _ _ bu b_ b7).ic;clear b7;obtain⟨g4,f12,gI,dK⟩:=bq.b' 5;obtain⟨bY,bZ,ef⟩:=f12.shape;subst ef;have f13:=bq.k 4;refine .ac (.st tl f13 λc8 b2 df=>?_);have bO:=(bq.db 4 b2 df.c1).ic;have f14:=bO.k 6;refine .go 4 rfl (.z (.e8 fe f14) ?_);cases more
  case true =>
   refine .z (.not rfl) (.ae 2 rfl (aN func101 rfl rfl ?_));have b5:=(bO.bx [0,1,2,3,7,8] 4 5 6).n7;have bS:au az F w0 c8 [aw di [U d] 3,aw rp [.bool false] 4,aw pr [U after.cp,aD after.word] 33,aw kD [U batch] 3,aw aL [U d,aD x] 33,fc eK [((.slice (some ⟨bI,0,none⟩) 1 1),[(b4.mk d x)])],qB 47 33 4 e7 e9 ((l++[(b4.mk d x)]),true)]:=b5.fr (.slice bY (l++[(b4.mk d x)]).length bZ) (i:=6) rfl;have ck:=(bS.cA [4,5] 6 0 1 2 3).cv;have cJ:=(ck.dB [2]).cf;obtain⟨cF,cW,cX,cQ⟩:=cJ.fin;have nW:mv false after batch d (l,true) x=(((l++[(b4.mk d x)]),true),false):=(by first|exact xM nv|exact xN rn nv|exact xO rn nv);exact an.mk ⟨by rw[nW];rfl,cF,cW,by rw[nW];exact cX,cQ⟩
  refine .z (.not rfl) (.ae 2 rfl (aN func101 rfl rfl ?_));have b5:=(bO.bx [0,1,2,3,7,8] 4 5 6).n7;have bS:au az F w0 c8 [aw di [U d] 3,aw rp [.bool false] 4,aw pr [U after.cp,aD after.word] 33,aw kD [U batch] 3,aw aL [U d,aD x] 33,fc eK [((.slice (some ⟨bI,0,none⟩) 1 1),[(b4.mk d x)])],qB 47 33 4 e7 e9 ((l++[(b4.mk d x)]),false)]:=b5.fr (.slice bY (l++[(b4.mk d x)]).length bZ) (i:=6) rfl;have ck:=(bS.cA [4,5] 6 0 1 2 3).cv;have cJ:=(ck.dB [2]).cf;obtain⟨cF,cW,cX,cQ⟩:=cJ.fin;have nW:mv false after batch d (l,false) x=(((l++[(b4.mk d x)]),false),true):=(by first|exact xM nv|exact xN rn nv|exact xO rn nv);exact an.mk ⟨by rw[nW];rfl,cF,cW,by rw[nW];exact cX,cQ⟩
 replace aJ:=aJ.symm;refine .z (.not rfl) (have f6:=bN.k 6;.go 8 rfl (.z (.e8 fe f6) ?_));cases more
 case true =>
  refine .z (.not rfl) (.ae 2 rfl (aN func101 rfl rfl ?_));have bC:=(bN.bx [0,1,2,3,7] 4 5 6).n6;have bL:au az F w0 bp [aw di [U d] 3,aw rp [.bool false] 4,aw pr [U after.cp,aD after.word] 33,aw kD [U batch] 3,aw aL [U d,aD x] 33,qB 47 33 4 e7 e9 (l,true)]:=bC.fr fJ (i:=5) rfl;have bq:=(bL.cA [4] 5 0 1 2 3).bM;have bO:=(bq.dB [1]).cf;obtain⟨cF,cW,cX,cQ⟩:=bO.fin;have nW:mv false after batch d (l,true) x=((l,true),false):=(by first|exact xM nv|exact xN rn nv|exact xO rn nv);exact an.mk ⟨by rw[nW];rfl,cF,cW,by rw[nW];exact cX,cQ⟩
 refine .z (.not rfl) (.ae 2 rfl (aN func101 rfl rfl ?_));have bC:=(bN.bx [0,1,2,3,7] 4 5 6).n6;have bL:au az F w0 bp [aw di [U d] 3,aw rp [.bool false] 4,aw pr [U after.cp,aD after.word] 33,aw kD [U batch] 3,aw aL [U d,aD x] 33,qB 47 33 4 e7 e9 (l,false)]:=bC.fr fJ (i:=5) rfl;have bq:=(bL.cA [4] 5 0 1 2 3).bM;have bO:=(bq.dB [1]).cf;obtain⟨cF,cW,cX,cQ⟩:=bO.fin;have nW:mv false after batch d (l,false) x=((l,false),true):=(by first|exact xM nv|exact xN rn nv|exact xO rn nv);exact an.mk ⟨by rw[nW];rfl,cF,cW,by rw[nW];exact cX,cQ⟩
theorem ak7(e7 e9 di rp pr kD:Nat)(d batch:Int)(first:Bool)(after:b4)(hd:b6 d)(Ys:b6 batch)(Kn:b6 after.cp)(Bp:after.word.length<=1000000):V0 Tryz.prog 101 [] [ptr di 0,ptr rp 0,ptr pr 0,ptr e7 0,ptr kD 0,ptr e9 0] (λs:List b4×Bool=>bh [qB 47 33 4 e7 e9 s,aw di [U d] 3,aw rp [.bool first] 4,aw pr [U after.cp,aD after.word] 33,aw kD [U batch] 3]) (λs _=>s.1.length<=1000000) (mv first after batch d) where
 cl:=by kernel_rfl
 call:=λs F w x h bs bW=>ak6 (l:=s.1) (more:=s.2) x d batch first after hd Ys Kn Bp h bs bW
theorem zy{p:Prop}(h:p:=by first|(rw[V_ bk];done)|(rw[V_ bk])|exact Wd A8 (n:=jF+1) (.inl ⟨by assumption,by omega⟩) bk|exact Wd A8 (n:=jF) (.inr aa) bk|(rw[Nr A8 (n:=jF+1) (.inl ⟨by assumption,by omega⟩)])|(rw[Nr A8 (n:=jF) (.inr aa)])|(exfalso;omega)):p:=h
theorem zz{p:Prop}(h:p:=by omega):p:=h
theorem ak8{w0:World}{s:c9}{mD:List aj}{ju:Value}{gV fb:Nat}{g:List cy}(ky:aj)(k:Int)(first:Bool){after:b4}(batch:Int)(qF:hy 0 w0 gV fb ju g)(x1:fb<=w0.heap.size)(ye:b6 k)(ak9:b6 batch)(bW:tX g s mD)(tr:mD.length<=1000)(aT:ky.length<=1000000)(Kn:b6 after.cp)(Bp:after.word.length<=1000000):
 bJ 51 #[ju,aD ky,U k,.bool first,.agg #[U after.cp,aD after.word],U batch] w0 (an λaC ai=>∃eR gi,aC=.tuple #[eR,gi]/\(∃dp,Acc eK 33 2 ai dp eR ((pB g mD ky k first after batch).1)/\(dp=0\/w0.heap.size<dp))/\(∃cr:Bool,cr=((pB g mD ky k first after batch).2)/\gi=.bool cr)/\Ext w0 ai):=by
 have pt:=bW;obtain⟨uy,⟨te,p8,al⟩,OL,J2,l',dN,ash⟩:=bW;obtain⟨mW,rR,iB⟩:=pt.yK;have cT:=au.f_ w0;refine bP func51 rfl ntmps51 rfl (.go 2 rfl (.ac (.box [.bool first] rfl rfl λai aL av aF cq aW=>have a6:=(cT.cS av aF aW).cf;.ac (.box [U after.cp,aD after.word] rfl rfl λaZ aQ aA aJ ec bQ=>have a1:=(a6.cS aA aJ bQ).bM;.ac (.box [U batch] rfl rfl λbp bx aM aX fF cP=>have ba:=(a1.cS aM aX cP).cv;have f1:=hy.AT qF ba.mod (λ_ _ _ h=>h);.go 8 rfl (.ac (.aH aiB rfl (ak5 (w0:=bp)  ky (k) f1 (Nat.le_trans x1 ba.mod.size) cN aU) ?_)))))));rintro _ bX ⟨v1,_,rfl,h1,⟨bI,br,rfl⟩,aY⟩;have bN:=(ba.EJ aY h1).bU;have vC:=h1.le;have:=ag_ g ky k;refine .go 10 rfl ?_;cases bI
 case true =>
  replace br:=br.symm;refine .z (.not rfl) (.go 5 rfl (.ac (.alloc tl λcH cA bu cE hc df=>have bL:=(bN.cS bu cE df).cU;have f2:=bL.k 2;.go 3 rfl (.z (.e8 aK f2) (.z (.max rfl rfl) (.ac (.st aK f2 λc8 b2 e5=>?_)))))));have bq:=(bL.db 2 b2 e5.c1).cU;refine .go 3 rfl (.ac (.alloc fe λdA dd cC cw ka gA=>have b5:=(bq.cS cC cw gA).n6;have f3:=b5.k 5;.ac (.st fe f3 λeM dg pT=>?_)));have bS:=(b5.db 5 dg pT.c1).n6;have ck:au az az w0 eM [aw aL [.bool first] 4,aw aQ [U after.cp,aD after.word] 33,aw bx [U (max batch 0)] 3,fc iK [(v1,(jk g ky k))],aw cA [.slice none 0 0] 47,aw dd [.bool false] 4,aP eK 33 2 (.slice none 0 0) []]:=bS.fR (Mod.refl _ _) Acc.nil (.inl rfl);have cJ:=(ck.bx [0,1,2,3] 4 6 5).cU;have da:au az az w0 eM [aw aL [.bool first] 4,aw aQ [U after.cp,aD after.word] 33,aw bx [U (max batch 0)] 3,fc iK [(v1,(jk g ky k))],qB 47 33 4 cA dd (iD mD (jk g ky k) first after (max batch 0) 0)]:=cJ.fr (.slice none 0 0) (i:=4) rfl;have A8:pA g ky k=true:=(by assumption);have Yt:=(AV.1 A8).2.1;refine .go 5 rfl (.z (.cg (k+1) rfl rfl aa) (.ae 3 rfl (dU (I:=λm E W=>∃(jF:Nat),E=[(0,ju),(9,ptr aL 0),(10,ptr aQ 0),(11,ptr bx 0),(14,v1),(16,ptr cA 0),(17,ptr dd 0),(31,U (k+1)),(32,U (jF:Int))]/\m=(k+1).toNat-jF/\au az az w0 W [aw aL [.bool first] 4,aw aQ [U after.cp,aD after.word] 33,aw bx [U (max batch 0)] 3,fc iK [(v1,(jk g ky k))],qB 47 33 4 cA dd (iD mD (jk g ky k) first after (max batch 0) jF)]/\(false=(iD mD (jk g ky k) first after (max batch 0) jF).2)/\((jF:Int)<=k+1)) ?_ ?_)))
  . refine⟨_,_,⟨(0:Nat),rfl,rfl,da,dC,zz⟩,bj⟩
  . rintro _ _ ff ⟨jF,rfl,rfl,dD,vx,Od⟩ b1;refine .go 2 rfl (.bg (.lt rfl rfl) (λdw=>?_) λdw=>?_)
    . refine .go 9 rfl (.ac (.alloc aK λfv hB dn dH FN x0=>have ek:=dD.ext dn;have fh:=(dD.cS dn dH x0).n6;have f4:=fh.k 5;.ac (.st aK f4 λht dS ak_=>?_)));have eE:=(fh.db 5 dS ak_.c1).n6;have f5:=eE.k 5;refine .go 5 rfl (.z (.e8 aK f5) (.z (.makeFunc (first:=[]) (cap:=[ptr hB 0,ptr aL 0,ptr aQ 0,ptr cA 0,ptr bx 0,ptr dd 0]) rfl rfl) ?_));have et:=(eE.cA [3] 4 5 0 1 2).bM;have f6:=hy.AT qF et.mod (λ_ _ _ h=>h);obtain⟨h8,asi,dz,Yu,J6,dt,Yv,de⟩:=et.Ct (i:=1) (j:=0) rfl rfl b0;have asj:=Nq mD (jk g ky k) first after (max batch 0) jF
      have asl:jF*mD.length<=5*mD.length:=Nat.mul_le_mul_right _ zz;refine .ac (.aH aiC rfl (akX (s:=s) (words:=mD) (w0:=ht) (jF:Int) (iD mD (jk g ky k) first after (max batch 0) jF) (ak7 cA dd hB aL aQ bx (jF:Int) (max batch 0) first after zz zz Kn Bp) dz (λb ab=>(dt b ab).2) (uy▸f6) (Nat.le_trans x1 et.mod.size) (aha dt (λ_ h=>h) x1) (EP Yu) J6 Yv zz zz (uy▸p8) al OL J2 l' dN (uy▸iB) (ag' J2 tr) (Wa first after (max batch 0) _ 1000000 _ _ (by have:=V9 mD (jk g ky k) (jF:Int);omega))) ?_);rintro _ jm ⟨rfl,eW,fs,gX,eg⟩;have gu:au az az w0 jm [fc iK [(v1,(jk g ky k))],bh [qB 47 33 4 cA dd (iD mD (jk g ky k) first after (max batch 0) (jF+1)),aw hB [U (jF:Int)] 3,aw aL [.bool first] 4,aw aQ [U after.cp,aD after.word] 33,aw bx [U (max batch 0)] 3]]:=de _ _ _ eW (ahb vx▸gX) eg;clear dz Yu J6 dt Yv de;have fw:=(gu.u 1 [0]).n6;have gO:au az az w0 jm [fc iK [(v1,(jk g ky k))],qB 47 33 4 cA dd (iD mD (jk g ky k) first after (max batch 0) (jF+1)),aw hB [U (jF:Int)] 3,aw aL [.bool first] 4,aw aQ [U after.cp,aD after.word] 33,aw bx [U (max batch 0)] 3]:=fw;obtain⟨kv,fg⟩:∃b,b=(iD mD (jk g ky k) first after (max batch 0) (jF+1)).2:=⟨_,rfl⟩;obtain⟨fJ,gP⟩:=gO.fB 1;change au az az w0 jm [fc iK [(v1,(jk g ky k))],bh [aw cA [fJ] 47,aP eK 33 2 fJ ((iD mD (jk g ky k) first after (max batch 0) (jF+1)).1),aw dd [.bool (iD mD (jk g ky k) first after (max batch 0) (jF+1)).2] 4],aw hB [U (jF:Int)] 3,aw aL [.bool first] 4,aw aQ [U after.cp,aD after.word] 33,aw bx [U (max batch 0)] 3] at gP;rw[<-fg] at gP;have jb:=(gP.u 1 [0,2,3,4,5]).n8;have f7:=jb.k 7;refine .go 3 rfl (.z (.e8 fe f7) (.ae 1 rfl ?_));cases kv
      case true =>
       replace fg:=fg.symm;refine .ae 3 rfl (eT (λi=>false) 5 (λao=>Mod (b3 0) jm ao) mixed λlU gQ=>have j3:=jb.ext gQ;have Ga:Mod (b3 0) jm lU:=Mod.gb gQ;⟨Ga,?_⟩);have f8:=jb.k 5;refine .z rfl (.ca tl rfl (λ_ al=>(f8.cell 0 _ rfl).bF al (Nat.succ_ne_zero _))) (.z rfl (.ca fe rfl (λ_ al=>(f7.cell 0 _ rfl).bF al (Nat.succ_ne_zero _))) (.z rfl (.not rfl) (.gd 2 rfl (.nil (cM func51 rfl rfl rfl ?_)))));obtain⟨g1,b_,b7⟩:=j3.ta (i:=6) rfl;exact an.mk ⟨_,_,rfl,⟨_,Acc.cast b_ zy,b7⟩,⟨_,zy,rfl⟩,j3.mod⟩
      replace fg:=fg.symm;have j3:=(jb.bx [0,1,2,3,4] 5 6 7).n6;have lI:au az az w0 jm [fc iK [(v1,(jk g ky k))],aw hB [U (jF:Int)] 3,aw aL [.bool first] 4,aw aQ [U after.cp,aD after.word] 33,aw bx [U (max batch 0)] 3,qB 47 33 4 cA dd ((iD mD (jk g ky k) first after (max batch 0) (jF+1)).1,false)]:=j3.fr fJ (i:=5) rfl;have pg:=(lI.ty (qB 47 33 4 cA dd (iD mD (jk g ky k) first after (max batch 0) (jF+1))) 5 rfl (λei bR=>by rw[show(iD mD (jk g ky k) first after (max batch 0) (jF+1))=((iD mD (jk g ky k) first after (max batch 0) (jF+1)).1,false) from Prod.ext rfl (by show _=false;assumption)];exact bR)).n6;exact .go 4 rfl (.z (.cg ((jF+1:Nat):Int) rfl rfl zz) (have uD:=(pg.dB [2,3,4,0,5]).cU;.ae 2 rfl ((b1 _ _ _ ⟨(jF+1:Nat),rfl,rfl,uD,(by first|exact(by assumption:_=(iD mD (jk g ky k) first after (max batch 0) (jF+1)).2)|(symm;assumption)|(exfalso;omega)),e_⟩ zz).sub bj)))
    refine .ae 2 rfl ?_;obtain⟨hB,dH⟩:∃b,b=(iD mD (jk g ky k) first after (max batch 0) jF).2:=⟨_,rfl⟩;obtain⟨fJ,ek⟩:=dD.fB 4;change au az az w0 ff [aw aL [.bool first] 4,aw aQ [U after.cp,aD after.word] 33,aw bx [U (max batch 0)] 3,fc iK [(v1,(jk g ky k))],bh [aw cA [fJ] 47,aP eK 33 2 fJ ((iD mD (jk g ky k) first after (max batch 0) jF).1),aw dd [.bool (iD mD (jk g ky k) first after (max batch 0) jF).2] 4]] at ek;rw[<-dH] at ek;have fh:=(ek.u 4 [0,1,2,3]).n7;refine .ae 3 rfl (eT (λi=>false) 5 (λao=>Mod (b3 0) ff ao) mixed λfv dn=>have eE:=fh.ext dn;have sH:Mod (b3 0) ff fv:=Mod.gb dn;⟨sH,?_⟩);have f4:=fh.k 4;refine .z rfl (.ca tl rfl (λ_ al=>(f4.cell 0 _ rfl).bF al (Nat.succ_ne_zero _))) (have f5:=fh.k 6;.z rfl (.ca fe rfl (λ_ al=>(f5.cell 0 _ rfl).bF al (Nat.succ_ne_zero _))) ?_);cases hB
    case true =>
     replace dH:=dH.symm;refine .z rfl (.not rfl) (.gd 2 rfl (.nil (cM func51 rfl rfl rfl ?_)));obtain⟨g1,b_,b7⟩:=eE.ta (i:=5) rfl;exact an.mk ⟨_,_,rfl,⟨_,Acc.cast b_ zy,b7⟩,⟨_,zy,rfl⟩,eE.mod⟩
    replace dH:=dH.symm;refine .z rfl (.not rfl) (.gd 2 rfl (.nil (cM func51 rfl rfl rfl ?_)));obtain⟨g1,b_,b7⟩:=eE.ta (i:=5) rfl;exact an.mk ⟨_,_,rfl,⟨_,Acc.cast b_ zy,b7⟩,⟨_,zy,rfl⟩,eE.mod⟩
 replace br:=br.symm;exact .z (.not rfl) (.ae 7 rfl (cM func51 rfl rfl rfl (an.mk ⟨_,_,rfl,⟨0,Acc.cast Acc.nil zy,.inl rfl⟩,⟨_,zy,rfl⟩,bN.mod⟩)))
end Go.Proofs
namespace Go.ak
open Go.aG
def yh(K:List cV)(s:Int):Int:=match K.findIdx? λx=>decide (x.1=s) with|some i=>(i:Int)|none=>-1
theorem O6{K:List cV}{s:Int}(h:jZ K s=none):yh K s=-1:=by
 unfold yh
 have:K.findIdx? (λx=>decide (x.1=s))=none:=by
  rw[List.findIdx?_eq_none_iff]
  intro x ag
  have:=List.find?_eq_none.1 h x ag
  simpa using this
 rw[this]
theorem O7{K:List cV}{s:Int}{x:cV}(h:jZ K s=some x):∃k:Nat,yh K s=(k:Int)/\K[k]?=some x/\x.1=s:=by
 obtain⟨k,h1,ah,aB⟩:=afL h;refine⟨k,?_,h1,ah⟩;unfold yh
 have:K.findIdx? (λx=>decide (x.1=s))=some k:=by
  obtain⟨hk,rfl⟩:=List.getElem?_eq_some_iff.1 h1
  rw[List.findIdx?_eq_some_iff_getElem]
  refine⟨hk,decide_eq_true ah,λj bo=>?_⟩
  have:=aB j _ bo (List.getElem?_eq_getElem aa)
  simpa using this
 rw[this]
theorem ak'{K:List cV}{s:Int}{sh:List Int}{i:Nat}{y:Int}(yP:sh=K.map (·.1))(fX:∀z∈sh.take i,z≠s)(aE:sh[i]?=some y)(he:y=s):(i:Int)=yh K s:=by
 subst yP;unfold yh;rw[List.getElem?_map] at aE
 cases hk:K[i]? with
 | none=>rw[hk] at aE;cases aE
 | some x =>
  rw[hk] at aE;have ag:x.1=s:=(Option.some.inj aE).trans he;obtain⟨na,wA⟩:=List.getElem?_eq_some_iff.1 hk
  have:K.findIdx? (λx=>decide (x.1=s))=some i:=by
   rw[List.findIdx?_eq_some_iff_getElem]
   refine⟨na,decide_eq_true (by rw[wA];exact ag),λj bo=>?_⟩
   have ah:=fX (K[j]'aa).1 (by
    rw[<-List.map_take]
    exact List.mem_map_of_mem (List.mem_take_iff_getElem.2 ⟨j,by omega,rfl⟩))
   simpa using ah
  rw[this]
theorem ala{K:List cV}{s:Int}{sh:List Int}{i:Nat}(yP:sh=K.map (·.1))(fX:∀z∈sh.take i,z≠s)(ar:sh.length<=i):(-1:Int)=yh K s:=by
 rw[List.take_of_length_le ar] at fX;subst yP;unfold yh
 have:K.findIdx? (λx=>decide (x.1=s))=none:=by
  rw[List.findIdx?_eq_none_iff]
  intro x ag
  have:=fX x.1 (List.mem_map_of_mem ag)
  simpa using this
 rw[this]
theorem alb{sh:List Int}{s y:Int}{i:Nat}(fX:∀z∈sh.take i,z≠s)(aE:sh[i]?=some y)(dL:y≠s):∀z∈sh.take (i+1),z≠s:=by
 intro z cO;rw[List.take_add_one,aE] at cO;rcases List.mem_append.1 cO with h|h
 . exact fX z h
 . simp only[Option.toList_some,List.mem_singleton] at h;rw[h];exact dL
theorem alc(K:List cV)(s:Int):b6 (pw K s):=by unfold pw;split<;>(unfold b6;decide)
theorem Yw{K:List cV}(h:o5 K)(s:Int):(iN K s).length<=4000000:=by
 unfold iN;split
 . exact Nat.zero_le _
 . rename_i x ag;have:=h.2 _ (AR ag).2;omega
end Go.ak
namespace Go.aG
open Go Go.ak
section
variable {R F bV:Nat->Prop} {w0 w:World} {L:List (dr R)} {i:Nat} {rows:List iO} {K:List cV}
theorem O8(h:px w F rows K):rows.map (·.shard)=K.map (·.1):=by
 induction h with
 | nil=>rfl
 | cons h _ cc=>rw[List.map_cons,List.map_cons,cc,h.1]
theorem au.Bq(h:au R bV w0 w L)(ar:L[i]?=some (iP rows K)):px w (dq 0 w.heap.size) rows K:=by
 obtain⟨F,h1,ah⟩:=h.get ar;exact px.mono h1 λb ab=>⟨Nat.zero_le _,ah b ab⟩
theorem px.two(h:px w F rows K){k:Nat}{r:iO}(a':rows[k]?=some r){y:cV}(aE:K[k]?=some y):aq eB w F r.r.val y.2.1/\aq eB w F r.b.val y.2.2:=by
 obtain⟨e,he,_,cD,dK⟩:=h.at a';obtain rfl:e=y:=Option.some.inj (he.symm.trans aE);exact⟨cD,dK⟩
end
end Go.aG
namespace Go.aG
open Go
theorem O9{P:Program}{d:Nat}{xs ys:Array Value}(gs:List Field):∀(lr:List Field) (w ao:World),(Op.eqFields d xs ys lr).run P w=.ok true ao->(Op.eqFields d xs ys (lr++gs)).run P w=(Op.eqFields d xs ys gs).run P ao
 | [],w,ao,h=>by
  simp only[Op.eqFields,Sem.run_pure,Result.ok.injEq,true_and] at h
  subst h;rfl
 | f::lr,w,ao,h=>by
  rw[List.cons_append]
  simp only[Op.eqFields] at h ⊢
  split at h
  . rename_i aR
    rw[if_pos aR]
    simp only[Sem.run_bind] at h ⊢
    generalize (part f.type xs f.offset).run P w=dW at h ⊢
    cases dW with
    | ok a ai =>
     simp only[Result.andThen_ok] at h ⊢
     generalize (part f.type ys f.offset).run P ai=Gb at h ⊢
     cases Gb with
     | ok b aZ =>
      simp only[Result.andThen_ok] at h ⊢
      generalize (Op.equalIn d f.type a b).run P aZ=O_ at h ⊢
      cases O_ with
      | ok r bp =>
       simp only[Result.andThen_ok] at h ⊢
       cases r
       . simp at h
       . simp only[Bool.not_true,Bool.false_eq_true,if_false] at h ⊢
         exact O9 gs lr bp ao h
      | _=>cases h
     | _=>cases h
    | _=>cases h
  . rename_i aR
    rw[if_neg aR]
    exact O9 gs lr w ao h
theorem O'{P:Program}{d:Nat}{xs ys:Array Value}(gs:List Field):∀(lr:List Field) (w ao:World),(Op.eqFields d xs ys lr).run P w=.ok false ao->(Op.eqFields d xs ys (lr++gs)).run P w=.ok false ao
 | [],w,ao,h=>by simp[Op.eqFields] at h
 | f::lr,w,ao,h=>by
  rw[List.cons_append]
  simp only[Op.eqFields] at h ⊢
  split at h
  . rename_i aR
    rw[if_pos aR]
    simp only[Sem.run_bind] at h ⊢
    generalize (part f.type xs f.offset).run P w=dW at h ⊢
    cases dW with
    | ok a ai =>
     simp only[Result.andThen_ok] at h ⊢
     generalize (part f.type ys f.offset).run P ai=Gb at h ⊢
     cases Gb with
     | ok b aZ =>
      simp only[Result.andThen_ok] at h ⊢
      generalize (Op.equalIn d f.type a b).run P aZ=O_ at h ⊢
      cases O_ with
      | ok r bp =>
       simp only[Result.andThen_ok] at h ⊢
       cases r
       . simpa using h
       . simp only[Bool.not_true,Bool.false_eq_true,if_false] at h ⊢
         exact O' gs lr bp ao h
      | _=>cases h
     | _=>cases h
    | _=>cases h
  . rename_i aR
    rw[if_neg aR]
    exact O' gs lr w ao h
theorem ald{P:Program}{t t2:TypeId}{xs ys x2 y2:Array Value}{ks ks2:List (Nat×Az)}{q q2:Bool}{k o n by_:Nat}{z:List Value}(bD:P.underlying t=some (.struct (P.fieldsOf t)))(hp:P.stoodInHeld t=false)
 (hk : yN P ((P.fieldsOf t).toList.take k) = some ks) (aV : (((P.fieldsOf t).toList.drop k).map fun f => (f.name != "_", f.type, f.offset)) = [(true, t2, o)])
 (ss:P.underlying t2=some (.struct (P.fieldsOf t2))) (wx:P.stoodInHeld t2=false) (bQ:yN P (P.fieldsOf t2).toList=some ks2) (r1:ey P t2=some (true,n,by_,z))
 (dM:mq ks xs ys=some q) (ag:xs.extract o (o+n)=x2) (aE:ys.extract o (o+n)=y2) (zq:mq ks2 x2 y2=some q2) (w:World) :
 (Op.equalIn 10000 t (.agg xs) (.agg ys)).run P w=.ok (q && q2) w:=by
 refine(run_equalIn_agg w 9999 t xs ys bD hp).trans ?_;have h1:=HJ (P:=P) (xs:=xs) (ys:=ys) (n:=9998) w _ ks q hk dM;have bl:(P.fieldsOf t).toList=(P.fieldsOf t).toList.take k++(P.fieldsOf t).toList.drop k:=(List.take_append_drop _ _).symm;rw[bl]
 cases q with
 | false =>
  show _=Result.ok false w;exact O' _ _ w w h1
 | true =>
  rw[O9 _ _ w w h1];obtain⟨f,C3,Yx⟩:=List.map_eq_singleton_iff.1 aV;rw[C3];simp only[Prod.mk.injEq,bne_iff_ne,ne_eq] at Yx;obtain⟨aR,fU,je⟩:=Yx
  have AA:∀cs:Array Value,(part f.type cs f.offset).run P w=.ok (.agg (cs.extract o (o+n))) w:=by
   intro cs
   unfold part
   rw[fU,je]
   simp[Sem.run_bind,Lt r1,aG.run_sizeOf r1]
  have he:(Op.equalIn 9999 t2 (.agg x2) (.agg y2)).run P w=.ok q2 w:=(run_equalIn_agg w 9998 t2 x2 y2 ss wx).trans (HJ (n:=9997) w _ ks2 q2 bQ zq);have Yy:=AA xs;have Yz:=AA ys;rw[ag] at Yy;rw[aE] at Yz;rw[<-fU] at he;simp only[Op.eqFields];rw[if_pos aR];simp only[Sem.run_bind,Yy,Yz,Result.andThen_ok,he]
  cases q2<;>simp
end Go.aG
namespace Go.ak
open Go.aG
structure dy where
 ep:Int
 up:Bool
 life:Int
 K:List cV
 B:List cV
 q:List bb
def gn(B:List cV)(k:Int):List cy:=(iz (iN B k)).1
def kL(B:List cV)(k:Int):Int:=(iz (iN B k)).2
def ll(ks:List Int)(vs:List Value)(B:List cV):List (Int×(Value×Int)):=(ks.zip vs).map λp=>(p.1,(p.2,kL B p.1))
def mj(p:Value×Int):Value:=.agg #[p.1,.int .i64 p.2]
theorem ale{ks:List Int}{vs:List Value}{B:List cV}{i:Nat}{k:Int}{v:Value}(cK:vs.length=i)(hk:ks[i]?=some k)(aR:ks.Nodup):lA (ll (ks.take i) vs B) k (v,kL B k)=ll (ks.take (i+1)) (vs++[v]) B:=by
 have ar:=(List.getElem?_eq_some_iff.1 hk).1;have bl:(ks.take i).length=vs.length:=by rw[List.length_take];omega
 have e:ll (ks.take (i+1)) (vs++[v]) B=ll (ks.take i) vs B++[(k,(v,kL B k))]:=by
  unfold ll
  rw[List.take_add_one,hk]
  rw[List.zip_append bl,List.map_append];rfl
 rw[e]
 have fX:∀p∈ll (ks.take i) vs B,p.1≠k:=by
  intro p hp
  unfold ll at hp
  obtain⟨x,ag,rfl⟩:=List.mem_map.1 hp
  have a8:=(List.of_mem_zip (a:=x.1) (b:=x.2) ag).1
  intro e
  obtain⟨j,bo,he⟩:=List.mem_iff_getElem.1 a8
  rw[List.length_take] at bo
  rw[List.getElem_take] at he
  have ah:=List.getElem_of_getElem? hk
  exact(List.pairwise_iff_getElem.1 aR) j i aa ar aa (by rw[he,e];exact((List.getElem?_eq_some_iff.1 hk).2).symm)
 have:∀(m:List (Int×(Value×Int))),(∀p∈m,p.1≠k)->lA m k (v,kL B k)=m++[(k,(v,kL B k))]:=by
  intro m
  induction m with
  | nil=>intro _;rfl
  | cons p m cc =>
   intro h
   unfold lA
   rw[if_neg (h p dh),cc λq dM=>h q (by simp[dM])];rfl
 exact this _ fX
theorem Pa{ks:List Int}{vs:List Value}{B:List cV}(bl:vs.length=ks.length)(s:Int):
 (s∉ks/\gw (ll ks vs B) s=none)\/∃(i:Nat) (v:Value),ks[i]?=some s/\vs[i]?=some v/\gw (ll ks vs B) s=some (v,kL B s):=by
 induction ks generalizing vs with
 | nil=>exact .inl ⟨by simp,rfl⟩
 | cons k ks cc =>
  cases vs with
  | nil=>simp at bl
  | cons v vs =>
   have hF:ll (k::ks) (v::vs) B=(k,(v,kL B k))::ll ks vs B:=rfl;rw[hF];by_cases hk:k=s
   . subst hk;exact .inr ⟨0,v,rfl,rfl,by rw[p9,if_pos rfl]⟩
   . rcases cc (vs:=vs) (by simpa using bl) with ⟨h1,ah⟩|⟨i,u,h1,ah,aB⟩
     . exact .inl ⟨by simp[h1];exact λe=>hk e.symm,by rw[p9,if_neg hk,ah]⟩
     . exact .inr ⟨i+1,u,by simpa using h1,by simpa using ah,by rw[p9,if_neg hk,aB]⟩
structure qk where
 slot:Int
 query:Int
 shard:Int
 seq:Int
 worker:Int
 ga:Int
 items:List b4
 fin:Bool
 deriving DecidableEq
inductive eY where
 | hE (a b:Int)
 | lY (a b c:Int)
 | ask (a:bb)
 | iV (r:qk)
 | stop (a b:Int)
 deriving DecidableEq
def DH(ks:List Int)(B:List cV)(k:Int):Bool:=decide (k∈ks) && decide (gn B k≠[])
def r_(ks:List Int)(s:dy)(a:bb):Bool:=nN a && decide (a.ga=s.ep) && decide (0<a.ga) && DH ks s.B a.shard
def vM(id:Int)(s:dy)(a b c:Int):Bool:=decide (a=id) && decide (b=s.life) && decide (s.ep<c)
def kn(id:Int)(ks:List Int)(s:dy)(m:eY):dy:=
 if s.up=false then s else match m with
 | .lY a b c=>if vM id s a b c=true then { s with ep:=c } else s
 | .ask a=>if r_ ks s a=true then { s with q:=gg s.q a } else s
 | .stop a b=>{ s with q:=la s.q a b }
 | _=>s
def ho(B:List cV)(k:Int):List aj:=(h7 (iN B k)).1
def answer(id:Int)(s:dy)(a:bb):qk:=
 let r:=pB (gn s.B a.shard) (ho s.B a.shard) a.text a.k a.first a.after a.batch
 ⟨a.slot,a.query,a.shard,a.seq,id,s.ep,r.1,r.2⟩
def jn(id:Int)(s:dy):dy×List eY:=
 if s.up=false then(s,[]) else
 if 0<s.ep then match s.q with
  | a::q=>({ s with q:=q },[.iV (answer id s a)])
  | []=>(s,[.hE id s.life])
 else(s,[.hE id s.life])
def DI(s:dy):dy:=⟨0,true,s.life+1,s.K,s.K,[]⟩
def w3(c:cG)(id:Int):dy:=⟨0,true,1,ni c id,ni c id,[]⟩
def uE(s:dy):Int:=if s.up=true then s.ep else 0
def lZ(ks:List Int)(s:dy)(k:Int):List aj×Int:=
 if s.up=false then([],10) else if k∈ks then(if kL s.B k=0 then(ho s.B k,0) else([],kL s.B k)) else([],4)
def rq(s:dy):List bb:=if s.up=true then s.q else[]
structure w4(ks:List Int):Prop where
 vk:ks.Nodup
 i64:∀k∈ks,b6 k
 len:ks.length<=1000
structure Pb(ks:List Int)(B:List cV)(a:bb):Prop where
 ok:a.Ok
 Im:a.text.length<=1000
 YA:a.after.word.length<=1000
 sh:a.shard∈ks
 dp:gn B a.shard≠[]
structure hN(ks:List Int)(n:Nat)(s:dy):Prop where
 life:0<=s.life/\s.life<=(n:Int)
 K:o5 s.K
 ep:b6 s.ep
 mV:s.q.length<=n
 q:∀a∈s.q,Pb ks s.B a
 kw:∀k,(ho s.K k).length<=1000
 c4:∀k,(ho s.B k).length<=1000
theorem hN.more{ks:List Int}{n m:Nat}{s:dy}(h:hN ks n s)(hm:n<=m):hN ks m s:=⟨⟨h.life.1,by have:=h.life.2;omega⟩,h.K,h.ep,by have:=h.mV;omega,h.q,h.kw,h.c4⟩
theorem alf{ks:List Int}{s:dy}{a:bb}(h:r_ ks s a=true):nN a=true/\a.ga=s.ep/\0<a.ga/\a.shard∈ks/\gn s.B a.shard≠[]:=by
 unfold r_ DH at h;simp only[Bool.and_eq_true,decide_eq_true_eq] at h;exact⟨h.1.1.1,h.1.1.2,h.1.2,h.2.1,h.2.2⟩
theorem alg{q:List bb}{a x:bb}(h:x∈gg q a):x∈q\/x=a:=by
 unfold gg at h;split at h
 . split at h
   . obtain⟨y,aE,e⟩:=List.mem_map.1 h;split at e
     . exact .inr e.symm
     . exact .inl (e▸aE)
   . rcases List.mem_append.1 h with h|h
     . exact .inl h
     . exact .inr (List.mem_singleton.1 h)
 . exact .inl h
theorem alh(q:List bb)(a:bb):(gg q a).length<=q.length+1:=by
 unfold gg;split
 . split
   . rw[List.length_map];omega
   . rw[List.length_append];simp
 . omega
theorem hN.begin{ks:List Int}{n:Nat}{s:dy}(h:hN ks n s):hN ks (n+1) (DI s):=
 ⟨⟨by have:=h.life.1;show 0<=s.life+1;omega,by have:=h.life.2;show s.life+1<=((n+1:Nat):Int);omega⟩,h.K,by show b6 0;unfold b6;decide,Nat.zero_le _,(λa ay=>nomatch ay),h.kw,h.kw⟩
theorem hN.Pc{ks:List Int}{n:Nat}{s:dy}(h:hN ks n s):hN ks n { s with up:=false }:=⟨h.life,h.K,h.ep,h.mV,h.q,h.kw,h.c4⟩
theorem hN.Ko{ks:List Int}{n:Nat}{s:dy}{K:List cV}(h:hN ks n s)(eU:o5 K)(hw:∀k,(ho K k).length<=1000):hN ks n { s with K:=K }:=⟨h.life,eU,h.ep,h.mV,h.q,hw,h.c4⟩
def eY.Ok:eY->Prop
 | .hE a b=>b6 a/\b6 b
 | .lY a b c=>b6 a/\b6 b/\b6 c
 | .ask a=>a.Ok/\a.text.length<=1000/\a.after.word.length<=1000
 | .iV _=>True
 | .stop a b=>b6 a/\b6 b
theorem hN.take{ks:List Int}{n:Nat}{s:dy}{id:Int}{m:eY}(h:hN ks n s)(hm:m.Ok):hN ks (n+1) (kn id ks s m):=by
 have gL:=h.more (Nat.le_succ n);unfold kn;split
 . exact gL
 . cases m with
   | hE a b=>exact gL
   | iV r=>exact gL
   | lY a b c =>
    dsimp only;split
    . exact⟨gL.life,h.K,hm.2.2,gL.mV,h.q,h.kw,h.c4⟩
    . exact gL
   | ask a =>
    dsimp only;split
    . rename_i a_;obtain⟨_,_,_,bH,c_⟩:=alf a_;refine⟨gL.life,h.K,h.ep,?_,λx ag=>?_,h.kw,h.c4⟩
      . have:=alh s.q a;have:=h.mV;show(gg s.q a).length<=n+1;omega
      . rcases alg ag with ag|rfl
        . exact h.q x ag
        . exact⟨hm.1,hm.2.1,hm.2.2,bH,c_⟩
    . exact gL
   | stop a b =>
    refine⟨gL.life,h.K,h.ep,?_,λx ag=>h.q x ((List.mem_filter.1 ag).1),h.kw,h.c4⟩;have:(la s.q a b).length<=s.q.length:=List.length_filter_le ..
    have:=h.mV;show(la s.q a b).length<=n+1;omega
theorem hN.Pd{ks:List Int}{n:Nat}{s:dy}{id:Int}(h:hN ks n s):hN ks n (jn id s).1:=by
 unfold jn;split
 . exact h
 . split
   . split
     . rename_i a q dM;exact⟨h.life,h.K,h.ep,by have:=h.mV;rw[dM] at this;simp only[List.length_cons] at this;show q.length<=n;omega,λx ag=>h.q x (by rw[dM];exact List.mem_cons_of_mem _ ag),h.kw,h.c4⟩
     . exact h
   . exact h
theorem Kp{B:List cV}{k:Int}:gn B k≠[]↔kL B k=0:=by
 constructor
 . intro h;exact(CP _).1.trans (VH h)
 . intro h;obtain⟨N,_,ah,aB⟩:=Vf h;exact λe=>ah (aB.symm.trans e)
theorem YB{B:List cV}{k:Int}(h:gn B k≠[]):tX (gn B k) (o1 (ho B k)) (ho B k):=by
 obtain⟨h1,ah⟩:=Nd h;have e:gn B k=h' (ho B k):=ah;rw[e];exact Cz h1
theorem ali{ks:List Int}{B:List cV}{k:Int}(h1:k∈ks)(ah:gn B k≠[]):DH ks B k=true:=by unfold DH;rw[decide_eq_true h1,decide_eq_true ah];rfl
theorem alj{ks:List Int}{B:List cV}{k:Int}(h:k∉ks\/gn B k=[]):DH ks B k=false:=by
 unfold DH;rcases h with h|h
 . rw[decide_eq_false h];rfl
 . rw[h];simp
theorem alk(B:List cV)(k:Int):0<=kL B k/\kL B k<=10:=by
 have:0<=(iz (iN B k)).2/\(iz (iN B k)).2<=9:=by
  cases h:nh (iN B k) with
  | false=>rw[M6 h];decide
  | true =>
   rcases Vo h with h|h
   . omega
   . rw[h];decide
 unfold kL;omega
theorem alm{ks:List Int}{ep life:Int}{K B:List cV}{q:List bb}{k:Int}:lZ ks ⟨ep,false,life,K,B,q⟩ k=([],10):=rfl
theorem Pe{ks:List Int}{ep life:Int}{K B:List cV}{q:List bb}{k:Int}(h:k∉ks):lZ ks ⟨ep,true,life,K,B,q⟩ k=([],4):=by unfold lZ;simp[h]
theorem Pf{ks:List Int}{ep life:Int}{K B:List cV}{q:List bb}{k:Int}(h:k∈ks)(he:kL B k≠0):lZ ks ⟨ep,true,life,K,B,q⟩ k=([],kL B k):=by unfold lZ;simp[h,he]
theorem Kq{ks:List Int}{ep life:Int}{K B:List cV}{q:List bb}{k:Int}(h:k∈ks)(he:kL B k=0):lZ ks ⟨ep,true,life,K,B,q⟩ k=(ho B k,0):=by unfold lZ;simp[h,he]
theorem aln(ks:List Int)(s:dy)(k:Int):0<=(lZ ks s k).2/\(lZ ks s k).2<=10:=by
 unfold lZ;split
 . exact⟨by decide,by decide⟩
 . split
   . split
     . exact⟨Int.le_refl 0,(by decide:(0:Int)<=10)⟩
     . exact alk _ _
   . exact⟨by decide,by decide⟩
theorem Pg{c:cG}{w k:Int}(h:k∈cn c w):b6 k:=by
 have h1:=CR h;have ah:=uX c;unfold b6;omega
theorem YC{ks:List Int}{s:dy}{a:bb}(h:nN a=false):r_ ks s a=false:=by unfold r_;rw[h];rfl
theorem YD{ks:List Int}{s:dy}{a:bb}(h:a.ga≠s.ep):r_ ks s a=false:=by unfold r_;rw[decide_eq_false h];simp
theorem YE{ks:List Int}{s:dy}{a:bb}(h:¬ a.ga>0):r_ ks s a=false:=by unfold r_;rw[decide_eq_false (p:=0<a.ga) h];simp
theorem Ph{ks:List Int}{s:dy}{a:bb}(h:a.shard∉ks\/gn s.B a.shard=[]):r_ ks s a=false:=by unfold r_;rw[alj h];simp
theorem Pj{ks:List Int}{s:dy}{a:bb}(h1:nN a=true)(ah:a.ga=s.ep)(aB:a.ga>0)(bH:a.shard∈ks)(c_:gn s.B a.shard≠[]):r_ ks s a=true:=by
 unfold r_;rw[h1,decide_eq_true ah,decide_eq_true (p:=0<a.ga) aB,ali bH c_];rfl
theorem YF{id:Int}{s:dy}{a b c:Int}(h:a≠id):vM id s a b c=false:=by unfold vM;rw[decide_eq_false h];simp
theorem YG{id:Int}{s:dy}{a b c:Int}(h:b≠s.life):vM id s a b c=false:=by unfold vM;rw[decide_eq_false h];simp
theorem YH{id:Int}{s:dy}{a b c:Int}(h:¬ c>s.ep):vM id s a b c=false:=by unfold vM;rw[decide_eq_false (p:=s.ep<c) h];simp
theorem Pk{id:Int}{s:dy}{a b c:Int}(h1:a=id)(ah:b=s.life)(aB:c>s.ep):vM id s a b c=true:=by
 unfold vM;rw[decide_eq_true h1,decide_eq_true ah,decide_eq_true (p:=s.ep<c) aB];rfl
section
variable {id:Int} {ks:List Int} {ep life:Int} {K B:List cV} {q:List bb}
theorem zA{m:eY}:kn id ks ⟨ep,false,life,K,B,q⟩ m=⟨ep,false,life,K,B,q⟩:=rfl
theorem yi{a:bb}(h:r_ ks ⟨ep,true,life,K,B,q⟩ a=false):kn id ks ⟨ep,true,life,K,B,q⟩ (.ask a)=⟨ep,true,life,K,B,q⟩:=by unfold kn;simp[h]
theorem Pl{a:bb}(h:r_ ks ⟨ep,true,life,K,B,q⟩ a=true):kn id ks ⟨ep,true,life,K,B,q⟩ (.ask a)=⟨ep,true,life,K,B,gg q a⟩:=by unfold kn;simp[h]
theorem DJ{a b c:Int}(h:vM id ⟨ep,true,life,K,B,q⟩ a b c=false):kn id ks ⟨ep,true,life,K,B,q⟩ (.lY a b c)=⟨ep,true,life,K,B,q⟩:=by unfold kn;simp[h]
theorem Pm{a b c:Int}(h:vM id ⟨ep,true,life,K,B,q⟩ a b c=true):kn id ks ⟨ep,true,life,K,B,q⟩ (.lY a b c)=⟨c,true,life,K,B,q⟩:=by unfold kn;simp[h]
theorem YI{a b:Int}:kn id ks ⟨ep,true,life,K,B,q⟩ (.stop a b)=⟨ep,true,life,K,B,la q a b⟩:=rfl
theorem YJ{a b:Int}:kn id ks ⟨ep,true,life,K,B,q⟩ (.hE a b)=⟨ep,true,life,K,B,q⟩:=rfl
theorem YK:jn id ⟨ep,false,life,K,B,q⟩=(⟨ep,false,life,K,B,q⟩,[]):=rfl
theorem Gc(h:¬ ep>0):jn id ⟨ep,true,life,K,B,q⟩=(⟨ep,true,life,K,B,q⟩,[.hE id life]):=by
 unfold jn;simp only[Bool.true_eq_false,if_false];rw[if_neg (show ¬ 0<ep from h)]
theorem Pn(h:ep>0):jn id ⟨ep,true,life,K,B,[]⟩=(⟨ep,true,life,K,B,[]⟩,[.hE id life]):=by
 unfold jn;simp only[Bool.true_eq_false,if_false];rw[if_pos (show 0<ep from h)]
theorem Po{a:bb}(h:ep>0):jn id ⟨ep,true,life,K,B,a::q⟩=(⟨ep,true,life,K,B,q⟩,[.iV (answer id ⟨ep,true,life,K,B,a::q⟩ a)]):=by
 unfold jn;simp only[Bool.true_eq_false,if_false];rw[if_pos (show 0<ep from h)]
end
structure w5 where
 a:Int
 b:Int
 deriving DecidableEq
structure Gd where
 a:Int
 b:Int
 c:Int
 deriving DecidableEq
theorem alo{r t:qk}{b:Bool}(bK:r.slot=t.slot)(h1:r.query=t.query)(ah:r.shard=t.shard)(aB:r.seq=t.seq)(bH:r.worker=t.worker)(c_:r.ga=t.ga)(e1:r.fin=t.fin)(ab:b=decide (r.items=t.items)):b=decide (r=t):=by
 rw[ab];obtain⟨a0,ib,a2,a3,a4,a5,DK,DL⟩:=r;obtain⟨fp,c1,c2,hG,DM,w6,w7,xT⟩:=t;simp only at bK h1 ah aB bH c_ e1;subst bK;subst h1;subst ah;subst aB;subst bH;subst c_;subst e1;exact decide_eq_decide.2 dh
theorem alp{a b c d:Int}{p:Bool}(h:p=decide (w5.mk a b=w5.mk c d)):p=decide (eY.hE a b=eY.hE c d):=by rw[h];exact decide_eq_decide.2 dh
theorem alq{a b c d:Int}{p:Bool}(h:p=decide (w5.mk a b=w5.mk c d)):p=decide (eY.stop a b=eY.stop c d):=by rw[h];exact decide_eq_decide.2 dh
theorem alr{a b c d e f:Int}{p:Bool}(h:p=decide (Gd.mk a b c=Gd.mk d e f)):p=decide (eY.lY a b c=eY.lY d e f):=by rw[h];exact decide_eq_decide.2 dh
theorem als{a b:bb}{p:Bool}(h:p=decide (a=b)):p=decide (eY.ask a=eY.ask b):=by rw[h];exact decide_eq_decide.2 dh
theorem alu{a b:qk}{p:Bool}(h:p=decide (a=b)):p=decide (eY.iV a=eY.iV b):=by rw[h];exact decide_eq_decide.2 dh
theorem YL{id:Int}{ep life:Int}{K B:List cV}{q:List bb}(h:ep>0)(dM:q.length=0):jn id ⟨ep,true,life,K,B,q⟩=(⟨ep,true,life,K,B,q⟩,[.hE id life]):=by
 obtain rfl:=List.eq_nil_of_length_eq_zero dM;exact Pn h
theorem alv{id:Int}{ep life:Int}{K B:List cV}{q d_:List bb}{a:bb}(h:ep>0)(dM:q=a::d_):jn id ⟨ep,true,life,K,B,q⟩=(⟨ep,true,life,K,B,d_⟩,[.iV (answer id ⟨ep,true,life,K,B,q⟩ a)]):=by
 subst dM;exact Po h
end Go.ak
namespace Go.aG
open Go Go.ak
def l0{R:Nat->Prop}(vs:List Value)(sM:List (List cy)):dr R:=⟨λF w=>c3 (λv n=>(wu (R:=R) v n).p F w) vs sM,λh hm bs fo=>c3.imp (λ_ _ k=>(wu _ _).keep k hm bs fo) h⟩
def iW{R:Nat->Prop}(kX ql ji eI u8 lD o9:TypeId)(c4:Nat)(id:Int)(ks:List Int)(s:dy):dr R:=nF λx:Value×Nat×Nat×List Value×Nat =>
 bh [aw c4 [.int .i64 id,.int .i64 s.ep,.bool s.up,x.1,ptr x.2.1 0,.map (some x.2.2.1),ptr x.2.2.2.2 0] ql,aP encI kX 1 x.1 ks,hT ji eI u8 x.2.1 s.life s.K,jq fD mj x.2.2.1 (ll ks x.2.2.2.1 s.B),l0 x.2.2.2.1 (ks.map (gn s.B)),j1 lD o9 x.2.2.2.2 s.q]
theorem hy.Pp{gt:TypeId}{w:World}{c7 ar:Nat}{v:Value}{N:List cy}(h:hy gt w c7 ar v N):∃a,v=.pointer a/\(a=none↔N=[]):=by
 rcases h with ⟨h1,ah⟩|⟨b,gH,bn,h1,ah,_⟩
 . exact⟨none,h1,by simp[ah]⟩
 . exact⟨some ⟨b,0,none⟩,h1,by simp[ah]⟩
theorem au.mE{R bV:Nat->Prop}{w0 w:World}{L:List (dr R)}{kX ql ji eI u8 lD o9:TypeId}{c4 di iQ dc:Nat}{id:Int}{ks:List Int}{s:dy}{oS:Value}{vs:List Value}(h:au R bV w0 w L)(i:Nat)
 (ar:L[i]?=some (bh [aw c4 [.int .i64 id,.int .i64 s.ep,.bool s.up,oS,ptr di 0,.map (some iQ),ptr dc 0] ql,aP encI kX 1 oS ks,hT ji eI u8 di s.life s.K,jq fD mj iQ (ll ks vs s.B),l0 vs (ks.map (gn s.B)),j1 lD o9 dc s.q])):au R bV w0 w (L.set i (iW kX ql ji eI u8 lD o9 c4 id ks s)):=
 h.imp ar λF x=>⟨(oS,di,iQ,vs,dc),x⟩
theorem alw{R:Nat->Prop}{vs:List Value}{sM:List (List cy)}{v:Value}{n:List cy}{F:Nat->Prop}{w:World}(h:(bh [l0 (R:=R) vs sM,wu v n]).p F w):(l0 (R:=R) (vs++[v]) (sM++[n])).p F w:=by
 obtain⟨fi,h1,ah,aB⟩:=h;have a:=h1 0 _ rfl;obtain⟨c7,ar,d_,q2,fE⟩:=h1 1 _ rfl;have f0:∀b,fi 0 b->F b:=λb ab=>(ah 0 b ab).1.1
 have f1:∀b,fi 1 b->F b:=λb ab=>(ah 1 b ab).1.1
 have qT:c3 (λv n=>(wu (R:=R) v n).p F w) vs sM:=c3.imp (λ_ _ ⟨c7,ar,bt,cD,dK⟩=>⟨c7,ar,bt,cD,λb d_ q2=>f0 b (dK b d_ q2)⟩) a;exact c3.snoc qT ⟨c7,ar,d_,q2,λb bt cD=>f1 b (fE b bt cD)⟩
theorem au.Pq{R bV:Nat->Prop}{w0 w:World}{L:List (dr R)}{i k:Nat}{vs:List Value}{sM:List (List cy)}{v:Value}{n:List cy}(h:au R bV w0 w L)(ar:L[i]?=some (l0 vs sM))(cK:vs[k]?=some v)(aR:sM[k]?=some n):∃c7 up,hy 0 w c7 up v n/\up<=w.heap.size:=by
 obtain⟨F,h1,_⟩:=h.get ar;obtain⟨c7,up,ah,aB,_⟩:=(c3.get h1).2 k v n cK aR;exact⟨c7,up,ah,aB⟩
theorem DN{R:Nat->Prop}{kX ql ji eI u8 lD o9:TypeId}{c4:Nat}{id:Int}{ks:List Int}{s:dy}{F:Nat->Prop}{w:World}(h:(iW (R:=R) kX ql ji eI u8 lD o9 c4 id ks s).p F w):
 ∃(oS:Value) (di iQ:Nat) (vs:List Value) (dc:Nat),ds w c4 [.int .i64 id,.int .i64 s.ep,.bool s.up,oS,ptr di 0,.map (some iQ),ptr dc 0] ql/\(∃fs,(hT (R:=R) ji eI u8 di s.life s.K).p fs w/\∀b,fs b->F b)/\kP fD mj w iQ (ll ks vs s.B)/\(∃fs,(l0 (R:=R) vs (ks.map (gn s.B))).p fs w/\∀b,fs b->F b)/\∃fs,(j1 (R:=R) lD o9 dc s.q).p fs w/\∀b,fs b->F b:=by
 obtain⟨⟨oS,di,iQ,vs,dc⟩,fi,h1,ah,_⟩:=h;exact⟨oS,di,iQ,vs,dc,(h1 0 _ rfl).1,⟨_,h1 2 _ rfl,λb ab=>(ah 2 b ab).1.1⟩,(h1 3 _ rfl).1,⟨_,h1 4 _ rfl,λb ab=>(ah 4 b ab).1.1⟩,⟨_,h1 5 _ rfl,λb ab=>(ah 5 b ab).1.1⟩⟩
theorem Pr{R:Nat->Prop}{vs:List Value}{sM:List (List cy)}{F:Nat->Prop}{w:World}(h:(l0 (R:=R) vs sM).p F w):vs.length=sM.length:=(c3.get h).1
theorem YM{R:Nat->Prop}{vs:List Value}{sM:List (List cy)}{F:Nat->Prop}{w:World}(h:(l0 (R:=R) vs sM).p F w){k:Nat}{v:Value}{n:List cy}(cK:vs[k]?=some v)(aR:sM[k]?=some n):∃c7 up,hy 0 w c7 up v n/\up<=w.heap.size:=by
 obtain⟨c7,up,ah,aB,_⟩:=(c3.get h).2 k v n cK aR;exact⟨c7,up,ah,aB⟩
def rr(iX iy iY iZ i1:TypeId):eY->TypeId
 | .hE _ _=>iX
 | .lY _ _ _=>iy
 | .ask _=>iY
 | .iV _=>iZ
 | .stop _ _=>i1
def alx(vi:Value):eY->Value
 | .hE a b=>.agg #[.int .i64 a,.int .i64 b]
 | .lY a b c=>.agg #[.int .i64 a,.int .i64 b,.int .i64 c]
 | .ask a=>.agg #[.int .i64 a.slot,.int .i64 a.query,.int .i64 a.shard,.int .i64 a.seq,.int .i64 a.ga,aD a.text,.int .i64 a.k,.int .i64 a.batch,.bool a.first,.int .i64 a.after.cp,aD a.after.word]
 | .iV r=>.agg #[.int .i64 r.slot,.int .i64 r.query,.int .i64 r.shard,.int .i64 r.seq,.int .i64 r.worker,.int .i64 r.ga,vi,.bool r.fin]
 | .stop a b=>.agg #[.int .i64 a,.int .i64 b]
def jx(iX iy iY iZ i1:TypeId)(vi:Value)(m:eY):Value:=.iface (rr iX iy iY iZ i1 m) (alx vi m)
def jQ:eY->List b4
 | .iV r=>r.items
 | _=>[]
def nX(x:Int×Value):List Value:=[.int .i64 x.1,x.2]
theorem tx(x:Int×Value):(nX x).length=2:=rfl
def tz{R:Nat->Prop}(iX iy iY iZ i1 ln p5:TypeId)(v:Value)(ms:List eY):dr R:=nF λnw:List Value=>bh [aP nX ln 2 v ((nw.zip ms).map λx=>((0:Int),jx iX iy iY iZ i1 x.1 x.2)),ps (nw.length=ms.length) (bh ((nw.zip ms).map λx=>aP eK p5 2 x.1 (jQ x.2)))]
theorem aly{R:Nat->Prop}{iX iy iY iZ i1 ln p5:TypeId}{w:World}:(tz (R:=R) iX iy iY iZ i1 ln p5 (.slice none 0 0) []).p (λ_=>False) w:=
 ⟨[],λ_ _=>False,λi r ar=>by
  match i,ar with
  | 0,ar=>cases ar;exact⟨0,Acc.nil,λb ab=>by omega⟩
  | 1,ar=>cases ar;exact⟨rfl,λ_ _=>False,⟨λi r ar=>by simp at ar,⟨λ_ _ h=>False.elim h,λ_ _ _ _ h _=>False.elim h⟩⟩⟩,λ_ _ h=>h.elim,λ_ _ _ _ h _=>h.elim⟩
theorem Ps{R:Nat->Prop}{iX iy iY iZ i1 ln p5:TypeId}{F:Nat->Prop}{w:World}{v vi:Value}{m:eY}(h:(bh [aP (R:=R) nX ln 2 v [((0:Int),jx iX iy iY iZ i1 vi m)],bh [aP eK p5 2 vi (jQ m)]]).p F w):(tz (R:=R) iX iy iY iZ i1 ln p5 v [m]).p F w:=by
 obtain⟨fi,h1,ah,aB⟩:=h;refine⟨[vi],fi,λi r ar=>?_,ah,aB⟩
 match i,ar with
 | 0,ar=>cases ar;exact h1 0 _ rfl
 | 1,ar=>cases ar;exact⟨rfl,h1 1 _ rfl⟩
section
variable {iX iy iY iZ i1:TypeId} {m:eY}
theorem alz(hd:[iX,iy,iY,iZ,i1].Nodup)(h:rr iX iy iY iZ i1 m=iX):∃a b,m=.hE a b:=by
 cases m<;>simp_all[rr]
theorem alA(hd:[iX,iy,iY,iZ,i1].Nodup)(h:rr iX iy iY iZ i1 m=iy):∃a b c,m=.lY a b c:=by
 cases m<;>simp_all[rr]
theorem alB(hd:[iX,iy,iY,iZ,i1].Nodup)(h:rr iX iy iY iZ i1 m=iY):∃a,m=.ask a:=by
 cases m<;>simp_all[rr]
theorem alC(hd:[iX,iy,iY,iZ,i1].Nodup)(h:rr iX iy iY iZ i1 m=iZ):∃a,m=.iV a:=by
 cases m<;>simp_all[rr]
theorem alD(hd:[iX,iy,iY,iZ,i1].Nodup)(h:rr iX iy iY iZ i1 m=i1):∃a b,m=.stop a b:=by
 cases m<;>simp_all[rr]
end
def Ge(iX iy iY iZ i1:TypeId)(w:World)(x:Int×Value)(m:Int×eY):Prop:=x.1=m.1/\∃vi,x.2=jx iX iy iY iZ i1 vi m.2/\aq eK w (dq 0 w.heap.size) vi (jQ m.2)
def Br(ms:List eY):List (Int×eY):=ms.map λm=>((0:Int),m)
theorem Pt{α β:Type}{R:α->β->Prop}{l:List α}{m:List β}(h:c3 R l m){i:Nat}{a:α}(ay:l[i]?=some a):∃b,m[i]?=some b/\R a b:=by
 obtain⟨h1,ah⟩:=c3.get h;obtain⟨ar,_⟩:=List.getElem?_eq_some_iff.1 ay;have ab:m[i]?=some m[i]:=List.getElem?_eq_getElem aa;exact⟨_,ab,ah i a _ ay ab⟩
theorem Pu{R:Nat->Prop}{iX iy iY iZ i1 ln p5:TypeId}{F:Nat->Prop}{w:World}{v:Value}{ms:List eY}(h:(tz (R:=R) iX iy iY iZ i1 ln p5 v ms).p F w):
 ∃xs,aq nX w (dq 0 w.heap.size) v xs/\c3 (Ge iX iy iY iZ i1 w) xs (Br ms):=by
 obtain⟨nw,fi,h1,ah,_⟩:=h;obtain⟨g,ay,_⟩:=h1 0 _ rfl;obtain⟨bl,YN,bt,cD,_⟩:=h1 1 _ rfl;refine⟨_,ay.cj.cz (Nat.zero_le _) ay.lt,?_⟩
 have key:∀(nw:List Value) (ms:List eY),nw.length=ms.length->(∀(i:Nat) (x:Value×eY),(nw.zip ms)[i]?=some x->∃g,Acc eK p5 2 w g x.1 (jQ x.2)) ->
  c3 (Ge iX iy iY iZ i1 w) ((nw.zip ms).map λx=>((0:Int),jx iX iy iY iZ i1 x.1 x.2)) (Br ms):=by
  intro nw
  induction nw with
  | nil=>intro ms bl _;cases ms with
   | nil=>exact .nil
   | cons _ _=>simp at bl
  | cons vi nw cc =>
   intro ms bl hk
   cases ms with
   | nil=>simp at bl
   | cons m ms =>
    obtain⟨g,aV⟩:=hk 0 (vi,m) rfl
    exact .cons ⟨rfl,vi,rfl,aV.cj.cz (Nat.zero_le _) aV.lt⟩ (cc ms (by simpa using bl) λi x ag=>hk (i+1) x ag)
 refine key nw ms bl λi x ag=>?_
 obtain⟨g,h,_⟩:=bt i _ (by rw[List.getElem?_map,ag];rfl);exact⟨g,h⟩
theorem au.YO{R bV:Nat->Prop}{w0 w:World}{L:List (dr R)}{iX iy iY iZ i1 ln p5:TypeId}{v:Value}{m:eY}(h:au R bV w0 w L)(i:Nat)(ar:L[i]?=some (tz iX iy iY iZ i1 ln p5 v [m])):∃vi,au R bV w0 w (L.set i (bh [aP nX ln 2 v [((0:Int),jx iX iy iY iZ i1 vi m)],bh [aP eK p5 2 vi (jQ m)]])):=by
 obtain⟨nw,h1⟩:=h.Mk ar
 have bl:nw.length=1:=by
  obtain⟨F,⟨fi,bt,_⟩,_⟩:=h1.get (i:=i) (by rw[List.getElem?_set_self (List.getElem?_eq_some_iff.1 ar).1])
  exact(bt 1 _ rfl).1
 match nw,bl with
 | [vi],_ =>
  refine⟨vi,?_⟩
  have ah:=h1.imp (A':=bh [aP nX ln 2 v [((0:Int),jx iX iy iY iZ i1 vi m)],bh [aP eK p5 2 vi (jQ m)]]) (List.getElem?_set_self (List.getElem?_eq_some_iff.1 ar).1) λF k=>by
   obtain⟨fi,bt,cD,dK⟩:=k
   refine⟨fi,λi r ar=>?_,cD,dK⟩
   match i,ar with
   | 0,ar=>cases ar;exact bt 0 _ rfl
   | 1,ar=>cases ar;exact(bt 1 _ rfl).2
  rwa[List.set_set] at ah
theorem YP{R:Nat->Prop}{kX ql ji eI u8 lD o9:TypeId}{c4:Nat}{id:Int}{ks:List Int}{s t:dy}{F:Nat->Prop}{w:World}(h:s=t)(x:(iW (R:=R) kX ql ji eI u8 lD o9 c4 id ks s).p F w):(iW (R:=R) kX ql ji eI u8 lD o9 c4 id ks t).p F w:=h▸x
theorem YQ{R:Nat->Prop}{kX ql ji eI u8 lD o9 iX iy iY iZ i1 ln p5:TypeId}{c4:Nat}{id:Int}{ks:List Int}{v:Value}{p:dy×List eY}{t:dy}{ms:List eY}{F:Nat->Prop}{w:World}(h:p=(t,ms))(x:(bh [iW (R:=R) kX ql ji eI u8 lD o9 c4 id ks p.1,tz iX iy iY iZ i1 ln p5 v p.2]).p F w):(bh [iW (R:=R) kX ql ji eI u8 lD o9 c4 id ks t,tz iX iy iY iZ i1 ln p5 v ms]).p F w:=by
 subst h;exact x
end Go.aG
namespace Go.ak
open Go.aG
def YR(words:List aj)(s:aj):Bool:=qW words || decide (s.length>100)
theorem asm{words:List aj}{s:aj}(h:YR words s=false):qW words=false/\s.length<=100:=by
 unfold YR at h;simp only[Bool.or_eq_false_iff,decide_eq_false_iff_not] at h;exact⟨h.1,by omega⟩
theorem alE{words:List aj}(h:e6 words=0):∀w∈words,jW w=true:=λw hw=>by
 have:=(wc h).2.1 w hw
 unfold word at this
 simp only[Bool.and_eq_true,decide_eq_true_eq] at this
 have h1:=this.1
 unfold iL at h1
 unfold jW
 split at h1
 . omega
 . exact decide_eq_true bk
end Go.ak
namespace Go.ak
open Go.aG
theorem alF{words:List aj}(h:e6 words=0):∀w∈words,w.length<=1000:=λw hw=>by
 have:=TK ((wc h).2.1 w hw);omega
end Go.ak
namespace Go.ak
open Go.aG
structure ot(c:cG)(w:Int)(K:List cV):Prop where
 ok:o5 K
 no:∀k,k∉cn c w->jZ K k=none
 yes:∀k,k∈cn c w->∃b,jZ K k=some (k,gY c k,b)/\(b=gY c k\/∃a x,b=oB (gY c k) a x)
theorem ot.new{c:cG}(h:may c=true)(w:Int):ot c w (ni c w):=⟨IA h w,λk hk=>afS hk,λk hk=>⟨_,Vw hk,.inl rfl⟩⟩
theorem ot.put{c:cG}{w:Int}{K:List cV}(h:ot c w K)(s:Int){f:List UInt8->List UInt8}(bD:∀b,(f b).length=b.length)(aV:∀b,f b=b\/∃a x,f b=oB b a x):ot c w (od K s f):=by
 refine⟨h.ok.put s bD,λk hk=>?_,λk hk=>?_⟩
 . rw[Vs,h.no k hk];rfl
 . obtain⟨b,h1,ah⟩:=h.yes k hk;rw[Vs,h1,Option.map_some];by_cases aT:k=s
   . exact⟨_,congrArg some (if_pos aT),aV _⟩
   . exact⟨b,congrArg some (if_neg aT),ah⟩
theorem ot.AQ{c:cG}{w:Int}{K:List cV}(h:ot c w K)(s a x:Int):ot c w (xH K s a x):=h.put s (λb=>afl b a x) λb=>.inr ⟨a,x,rfl⟩
theorem ot.YS{c:cG}{w:Int}{K:List cV}(h:ot c w K)(s:Int):ot c w (xI K s):=h.put s (λ_=>rfl) λb=>.inl rfl
theorem ot.read{c:cG}{w:Int}{K:List cV}(h:ot c w K)(k:Int):(k∉cn c w/\iN K k=[])\/(k∈cn c w/\iN K k=gY c k)\/(k∈cn c w/\∃a x,iN K k=oB (gY c k) a x):=by
 by_cases hk:k∈cn c w
 . obtain⟨b,h1,ah⟩:=h.yes k hk;have aB:=(Vx h1).2.1;rcases ah with rfl|⟨a,x,rfl⟩
   . exact .inr (.inl ⟨hk,aB⟩)
   . exact .inr (.inr ⟨hk,a,x,aB⟩)
 . exact .inl ⟨hk,(afT (h.no k hk)).2.1⟩
theorem YT{c:cG}(hm:may c=true){w k:Int}(hk:k∈cn c w):gY c k=lx (tR c k)/\e6 (tR c k)=0:=⟨(Vr hm (CR hk).1 (CR hk).2).1,M7 hm k⟩
theorem YU{c:cG}(hm:may c=true){w k:Int}(hk:k∈cn c w){K:List cV}(h:iN K k=gY c k):gn K k=h' (tR c k)/\kL K k=0/\ho K k=tR c k:=by
 obtain⟨h1,ah⟩:=YT hm hk;unfold gn kL ho;rw[h,h1,MT ah,Vp ah];exact⟨rfl,rfl,rfl⟩
theorem YV{b:List UInt8}(h:(iz b).2≠0):(h7 b).1=[]:=by
 rcases Vn b with ⟨h1,_⟩|⟨h1,_⟩|⟨_,h1,_⟩
 . rw[h1]
 . rw[h1]
 . exact absurd ((CP b).1.trans h1) h
theorem alG{c:cG}(hm:may c=true){w k:Int}(hk:k∈cn c w){K:List cV}{a x:Int}(h:iN K k=oB (gY c k) a x):gn K k=[]/\kL K k=9/\ho K k=[]:=by
 obtain⟨h1,ah⟩:=YT hm hk;have hd:=afn ah a x;unfold gn kL ho;rw[h,h1,hd];exact⟨rfl,rfl,YV (by rw[hd];decide)⟩
theorem alH{K:List cV}{k:Int}(h:iN K k=[]):gn K k=[]/\kL K k≠0/\ho K k=[]:=by
 unfold gn kL ho;rw[h];exact⟨by decide +kernel,by decide +kernel,by decide +kernel⟩
theorem ot.wl{c:cG}{w:Int}{K:List cV}(hm:may c=true)(h:ot c w K)(bl:c.words.length<=1000)(k:Int):(ho K k).length<=1000:=by
 rcases h.read k with ⟨_,h1⟩|⟨bK,h1⟩|⟨bK,a,x,h1⟩
 . rw[(alH h1).2.2];exact Nat.zero_le _
 . rw[(YU hm bK h1).2.2];exact Nat.le_trans (afF k) bl
 . rw[(alG hm bK h1).2.2];exact Nat.zero_le _
theorem uF(c:cG)(w:Int):w4 (cn c w):=⟨Iy c w,λk hk=>Pg hk,Nat.le_trans (CG c w) b0⟩
theorem YW{c:cG}(hm:may c=true)(w:Int)(bl:c.words.length<=1000):hN (cn c w) 1 (w3 c w):=
 ⟨⟨(by decide:(0:Int)<=1),Int.le_refl _⟩,IA hm w,(by show b6 0;unfold b6;decide),Nat.zero_le _,(λa ay=>nomatch ay),(ot.new hm w).wl hm bl,(ot.new hm w).wl hm bl⟩
def DO:bb:=⟨0,0,0,0,1,[97],1,2,true,⟨0,[]⟩⟩
def Pv:List aj:=[[97],[98]]
def Kr:qk:=⟨0,0,0,0,1,1,[⟨0,[97]⟩,⟨1,[98]⟩],true⟩
def Gf:dy:=w3 nj 1
def Bs:dy:={ Gf with ep:=1 }
def Gg:dy:={ Bs with q:=[DO] }
theorem Pw:(0:Int)∈cn nj 1:=by rw[afV];simp
theorem YX:may nj=true:=(Iw Vy).1
theorem Px:gn (ni nj 1) 0=h' Pv/\ho (ni nj 1) 0=Pv:=by
 obtain⟨h1,_,aB⟩:=YU (K:=ni nj 1) YX Pw (afU Pw).2.1;have e:tR nj 0=Pv:=(by decide +kernel);rw[e] at h1 aB;exact⟨h1,aB⟩
theorem alI:jn 1 Gf=(Gf,[.hE 1 1]):=Gc b0
theorem YY:kn 1 (cn nj 1) Gf (.lY 1 1 1)=Bs:=Pm (Pk rfl rfl b0)
theorem YZ:kn 1 (cn nj 1) Bs (.ask DO)=Gg:=
 Pl (Pj (by decide +kernel) rfl b0 Pw (by show gn (ni nj 1) 0≠[];rw[Px.1];decide +kernel))
theorem alJ:jn 1 Gg=(Bs,[.iV Kr]):=by
 refine(Po b0).trans ?_
 have h:answer 1 Gg DO=Kr:=by
  unfold answer
  show(let r:=pB (gn (ni nj 1) 0) (ho (ni nj 1) 0) [97] 1 true ⟨0,[]⟩ 2;(⟨0,0,0,0,1,1,r.1,r.2⟩:qk))=Kr
  rw[Px.1,Px.2]
  decide +kernel
 exact congrArg (λr=>(Bs,[eY.iV r])) h
theorem Py:hN (cn nj 1) 1 Gf:=YW YX 1 b0
theorem Y0:DO.Ok:=⟨by unfold b6;decide,by unfold b6;decide,by unfold b6;decide,by unfold b6;decide,by unfold b6;decide,by unfold b6;decide,by unfold b6;decide,by unfold b6;decide⟩
theorem Y1:hN (cn nj 1) 2 Bs:=YY▸Py.take (id:=1) (m:=.lY 1 1 1) ⟨by unfold b6;decide,by unfold b6;decide,by unfold b6;decide⟩
theorem alK:hN (cn nj 1) 3 Gg:=YZ▸Y1.take (id:=1) (m:=.ask DO) ⟨Y0,by decide,by decide⟩
structure l1 where
 lK:Int
 i:Int
 j:Int
 x:Int
 a:bb
def ru(x:l1):List Value:=[.int .i64 x.lK,.int .i64 x.i,.int .i64 x.j,.int .i64 x.x,.int .i64 x.a.slot,.int .i64 x.a.query,.int .i64 x.a.shard,.int .i64 x.a.seq,.int .i64 x.a.ga,aD x.a.text,.int .i64 x.a.k,.int .i64 x.a.batch,.bool x.a.first,.int .i64 x.a.after.cp,aD x.a.after.word]
theorem DP(x:l1):(ru x).length=15:=rfl
structure l1.Ok(y:l1):Prop where
 lK:b6 y.lK
 i:b6 y.i
 j:b6 y.j
 x:b6 y.x
 a:y.a.Ok
def qm(x:l1):eY:=if x.lK=1 then .lY x.i x.j x.x else if x.lK=2 then .ask x.a else if x.lK=3 then .stop x.i x.j else .hE x.i x.j
theorem alL{x:l1}(h:x.lK=1):qm x=.lY x.i x.j x.x:=if_pos h
theorem alM{x:l1}(h:x.lK=2):qm x=.ask x.a:=by unfold qm;rw[if_neg aa,if_pos h]
theorem alN{x:l1}(h:x.lK=3):qm x=.stop x.i x.j:=by unfold qm;rw[if_neg aa,if_neg aa,if_pos h]
theorem alO{x:l1}(h1:x.lK≠1)(ah:x.lK≠2)(aB:x.lK≠3):qm x=.hE x.i x.j:=by unfold qm;rw[if_neg h1,if_neg ah,if_neg aB]
theorem Y2(id:Int)(ks:List Int)(s:dy)(m:eY):(kn id ks s m).K=s.K/\(kn id ks s m).B=s.B:=by
 unfold kn;split
 . exact⟨rfl,rfl⟩
 . cases m<;>dsimp only<;>first|exact⟨rfl,rfl⟩|(split<;>exact⟨rfl,rfl⟩)
theorem alP{id:Int}{s:dy}{a:bb}(aV:gn s.B a.shard≠[]):(answer id s a).items=(j7 (ho s.B a.shard) a.text a.k a.first a.after a.batch).1/\(answer id s a).fin=(j7 (ho s.B a.shard) a.text a.k a.first a.after a.batch).2:=by
 obtain⟨h1,ah⟩:=Nd aV;have e:=ahq (s:=a.text) (k:=a.k) (first:=a.first) (after:=a.after) (batch:=a.batch) aV (adE h1) (alE h1);exact⟨congrArg (·.1) e,congrArg (·.2) e⟩
theorem alQ{id:Int}{s:dy}{a:bb}(aV:gn s.B a.shard≠[]):answer id s a=⟨a.slot,a.query,a.shard,a.seq,id,s.ep,(j7 (ho s.B a.shard) a.text a.k a.first a.after a.batch).1,(j7 (ho s.B a.shard) a.text a.k a.first a.after a.batch).2⟩:=by
 obtain⟨h1,ah⟩:=alP (id:=id) aV;rw[<-h1,<-ah];rfl
theorem alR{B:List cV}{k:Int}(aV:gn B k≠[]):∀w∈ho B k,w.length<=1000:=alF (Nd aV).1
theorem Y3{ks:List Int}{ep life:Int}{K B:List cV}{q:List bb}{k:Int}(h:(lZ ks ⟨ep,true,life,K,B,q⟩ k).2=0):k∈ks/\gn B k≠[]:=by
 by_cases hk:k∈ks
 . refine⟨hk,Kp.2 ?_⟩;by_cases he:kL B k=0
   . exact he
   . rw[Pf hk he] at h;exact h
 . rw[Pe hk] at h;exact absurd h b0
theorem alS{ks:List Int}{ep life:Int}{K B:List cV}{q:List bb}{k:Int}(h:(lZ ks ⟨ep,true,life,K,B,q⟩ k).2≠0):k∉ks\/gn B k=[]:=by
 by_cases hk:k∈ks
 . right;by_cases aR:gn B k=[]
   . exact aR
   . exact absurd (by rw[Kq hk (Kp.1 aR)]) h
 . exact .inl hk
theorem alT{ks:List Int}{ep life:Int}{K B:List cV}{q:List bb}{k:Int}(hk:k∈ks)(aR:gn B k≠[]):lZ ks ⟨ep,true,life,K,B,q⟩ k=(ho B k,0):=Kq hk (Kp.1 aR)
end Go.ak
namespace Go.ak
open Go.aG
theorem Pz{q:List bb}{i:Nat}{x:bb}{p:Int×Int}(fX:∀z∈q.take i,z.pl≠p)(ag:q[i]?=some x)(hp:x.pl=p):k' q p=some x:=by
 unfold k';obtain⟨ar,rfl⟩:=List.getElem?_eq_some_iff.1 ag;rw[List.find?_eq_some_iff_getElem];refine⟨decide_eq_true hp,i,ar,rfl,λj bo=>?_⟩;have:=fX (q[j]'aa) (List.mem_take_iff_getElem.2 ⟨j,by omega,rfl⟩);simpa using this
theorem alU{q:List bb}{i:Nat}{p:Int×Int}(fX:∀z∈q.take i,z.pl≠p)(ar:q.length<=i):k' q p=none:=by
 rw[List.take_of_length_le ar] at fX;unfold k';rw[List.find?_eq_none];intro x ag;simpa using fX x ag
theorem Y4{q:List bb}{i:Nat}{x:bb}{p:Int×Int}(fX:∀z∈q.take i,z.pl≠p)(ag:q[i]?=some x)(hp:x.slot≠p.1\/x.shard≠p.2):∀z∈q.take (i+1),z.pl≠p:=by
 intro z cO;rw[List.take_add_one,ag] at cO;simp only[Option.toList_some,List.mem_append,List.mem_singleton] at cO;rcases cO with cO|rfl
 . exact fX z cO
 . intro e;rw[<-e] at hp;exact hp.elim (λh=>h rfl) (λh=>h rfl)
theorem Gh{x a:bb}(h1:x.slot=a.slot)(ah:x.shard=a.shard):x.pl=a.pl:=Prod.ext h1 ah
theorem Y5{q:List bb}{i:Nat}{x a:bb}(gG:(q.map bb.pl).Nodup)(ag:q[i]?=some x)(hp:x.pl=a.pl):q.set i a=q.map λx=>if x.pl=a.pl then a else x:=by
 obtain⟨ar,rfl⟩:=List.getElem?_eq_some_iff.1 ag;apply List.ext_getElem
 . simp
 . intro j h1 ah;rw[List.getElem_set,List.getElem_map];by_cases bo:i=j
   . subst bo;rw[if_pos rfl,if_pos hp]
   . rw[if_neg bo];have Fz:j<q.length:=(by simpa using ah);rw[if_neg];intro e;have:=(List.pairwise_iff_getElem.1 gG);have abU:(q.map bb.pl).length=q.length:=List.length_map ..;rcases Nat.lt_or_gt_of_ne bo with h|h
     . exact this i j aa aa h (by rw[List.getElem_map,List.getElem_map,e,hp])
     . exact this j i aa aa h (by rw[List.getElem_map,List.getElem_map,e,hp])
theorem Y6{q l:List bb}{i:Nat}{x:bb}{slot query:Int}(bl:l=la (q.take i) slot query)(ag:q[i]?=some x)(h:x.slot≠slot\/x.query>query):l++[x]=la (q.take (i+1)) slot query:=by
 rw[bl,List.take_add_one,ag];unfold la;rw[List.filter_append];have:uh slot query x=false:=by unfold uh;exact decide_eq_false aa
 simp[this]
theorem alV{q l:List bb}{i:Nat}{x:bb}{slot query:Int}(bl:l=la (q.take i) slot query)(ag:q[i]?=some x)(h1:x.slot=slot)(ah:¬ x.query>query):l=la (q.take (i+1)) slot query:=by
 rw[bl,List.take_add_one,ag];unfold la;rw[List.filter_append];have:uh slot query x=true:=by unfold uh;exact decide_eq_true aa
 simp[this]
theorem DQ{a:bb}(h:vm [a.query,a.seq,a.ga]=false\/¬ (0<=a.slot/\a.slot<=3)\/¬ (0<=a.shard/\a.shard<=5)\/¬ (0<=a.k/\a.k<=4)\/¬ (1<=a.batch/\a.batch<=5)\/asked a.text=false):false=nN a:=by
 symm;unfold nN;rcases h with h|h|h|h|h|h
 . rw[h];simp
 . have:tk a.slot a.shard=false:=by unfold tk;exact decide_eq_false aa
   rw[this];simp
 . have:tk a.slot a.shard=false:=by unfold tk;exact decide_eq_false aa
   rw[this];simp
 . rw[decide_eq_false (p:=0<=a.k/\a.k<=4/\1<=a.batch/\a.batch<=5) aa];simp
 . rw[decide_eq_false (p:=0<=a.k/\a.k<=4/\1<=a.batch/\a.batch<=5) aa];simp
 . rw[h];simp
theorem alW{a:bb}{b:Bool}(h1:vm [a.query,a.seq,a.ga]=true)(ah:0<=a.slot/\a.slot<=3)(aB:0<=a.shard/\a.shard<=5)(bH:0<=a.k/\a.k<=4)(c_:1<=a.batch/\a.batch<=5)(e1:asked a.text=true)(ab:b=wE a):b=nN a:=by
 have kz:tk a.slot a.shard=true:=(by unfold tk;exact decide_eq_true aa);unfold nN;rw[h1,e1,kz,decide_eq_true (p:=0<=a.k/\a.k<=4/\1<=a.batch/\a.batch<=5) aa,ab];simp
def DR(vi:Value):eY->List Value
 | .hE a b=>[.int .i64 1,.int .i64 a,.int .i64 b,.int .i64 0,.int .i64 0,.int .i64 0,.int .i64 0,.int .i64 0,.int .i64 0,.int .i64 0,.int .i64 0,aD [],.int .i64 0,.int .i64 0,.bool false,.int .i64 0,aD [],.int .i64 0,.int .i64 0,.int .i64 0,.int .i64 0,.int .i64 0,.int .i64 0,.slice none 0 0,.bool false,.int .i64 0,.int .i64 0]
 | .lY a b c=>[.int .i64 2,.int .i64 0,.int .i64 0,.int .i64 a,.int .i64 b,.int .i64 c,.int .i64 0,.int .i64 0,.int .i64 0,.int .i64 0,.int .i64 0,aD [],.int .i64 0,.int .i64 0,.bool false,.int .i64 0,aD [],.int .i64 0,.int .i64 0,.int .i64 0,.int .i64 0,.int .i64 0,.int .i64 0,.slice none 0 0,.bool false,.int .i64 0,.int .i64 0]
 | .ask a=>[.int .i64 3,.int .i64 0,.int .i64 0,.int .i64 0,.int .i64 0,.int .i64 0,.int .i64 a.slot,.int .i64 a.query,.int .i64 a.shard,.int .i64 a.seq,.int .i64 a.ga,aD a.text,.int .i64 a.k,.int .i64 a.batch,.bool a.first,.int .i64 a.after.cp,aD a.after.word,.int .i64 0,.int .i64 0,.int .i64 0,.int .i64 0,.int .i64 0,.int .i64 0,.slice none 0 0,.bool false,.int .i64 0,.int .i64 0]
 | .iV r=>[.int .i64 4,.int .i64 0,.int .i64 0,.int .i64 0,.int .i64 0,.int .i64 0,.int .i64 0,.int .i64 0,.int .i64 0,.int .i64 0,.int .i64 0,aD [],.int .i64 0,.int .i64 0,.bool false,.int .i64 0,aD [],.int .i64 r.slot,.int .i64 r.query,.int .i64 r.shard,.int .i64 r.seq,.int .i64 r.worker,.int .i64 r.ga,vi,.bool r.fin,.int .i64 0,.int .i64 0]
 | .stop a b=>[.int .i64 5,.int .i64 0,.int .i64 0,.int .i64 0,.int .i64 0,.int .i64 0,.int .i64 0,.int .i64 0,.int .i64 0,.int .i64 0,.int .i64 0,aD [],.int .i64 0,.int .i64 0,.bool false,.int .i64 0,aD [],.int .i64 0,.int .i64 0,.int .i64 0,.int .i64 0,.int .i64 0,.int .i64 0,.slice none 0 0,.bool false,.int .i64 a,.int .i64 b]
theorem Y7(vi:Value)(m:eY):(DR vi m).length=27:=by cases m<;>rfl
def sN(x:Value×eY):List Value:=.int .i64 0::DR x.1 x.2
theorem yj(x:Value×eY):(sN x).length=28:=congrArg (· + 1) (Y7 x.1 x.2)
def ko(ks:List Int)(B:List cV):List (Int×List aj×Int):=ks.map λk=>(k,ho B k,kL B k)
def vN(ks:List Int)(s:dy):List (Int×List aj×Int):=if s.up=true then ko ks s.B else[]
theorem alX{ks:List Int}{B:List cV}{i:Nat}{k:Int}(hk:ks[i]?=some k):ko (ks.take i) B++[(k,ho B k,kL B k)]=ko (ks.take (i+1)) B:=by
 unfold ko;rw[List.take_add_one,hk,Option.toList_some,List.map_append];rfl
theorem alY{B:List cV}{k:Int}(h:kL B k≠0):ho B k=[]:=YV h
theorem alZ(B:List cV)(k:Int):(h7 (iN B k)).2=kL B k:=((CP _).1).symm
theorem al0{ks:List Int}{ep life:Int}{K B:List cV}{q:List bb}{k:Int}{i:Nat}{e:Int×List aj×Int}(ag:(ko ks B)[i]?=some e)(he:e.1=k):lZ ks ⟨ep,true,life,K,B,q⟩ k=(e.2.1,e.2.2):=by
 unfold ko at ag;rw[List.getElem?_map] at ag
 cases hk:ks[i]? with
 | none=>rw[hk] at ag;cases ag
 | some cD =>
  rw[hk] at ag;have ah:=Option.some.inj ag;subst ah;dsimp only at he;subst he;have hm:=List.mem_of_getElem? hk;by_cases bK:kL B cD=0
  . rw[Kq hm bK];dsimp only;rw[bK]
  . rw[Pf hm bK];dsimp only;rw[alY bK]
theorem al1{ks:List Int}{ep life:Int}{K B:List cV}{q:List bb}{k:Int}(h:∀z∈ko ks B,z.1≠k):lZ ks ⟨ep,true,life,K,B,q⟩ k=([],4):=by
 exact Pe λhk=>h _ (List.mem_map_of_mem (f:=λk=>(k,ho B k,kL B k)) hk) rfl
theorem al2{S:List (Int×List aj×Int)}{i:Nat}{e:Int×List aj×Int}{k:Int}(fX:∀z∈S.take i,z.1≠k)(ag:S[i]?=some e)(he:e.1≠k):∀z∈S.take (i+1),z.1≠k:=by
 intro z cO;rw[List.take_add_one,ag] at cO;simp only[Option.toList_some,List.mem_append,List.mem_singleton] at cO;rcases cO with cO|rfl
 . exact fX z cO
 . exact he
end Go.ak
namespace Go.aG
open Go Go.ak
structure ou where
 n:Int
 w:cL
 e:Int
def hY(x:ou):List Value:=[.int .i64 x.n,x.w.val,.int .i64 x.e]
theorem Ks(x:ou):(hY x).length=3:=rfl
theorem al3(x:ou):(hY x).all (·.oneCell')=true:=rfl
def h_{R:Nat->Prop}(rows:List ou)(S:List (Int×List aj×Int)):dr R:=⟨λF w=>c3 (λr e=>r.n=e.1/\aq cx w F r.w.val e.2.1/\r.e=e.2.2) rows S,λh hm bs _=>c3.imp (λ_ _ k=>⟨k.1,k.2.1.keep hm bs,k.2.2⟩) h⟩
theorem al4{R F:Nat->Prop}{w:World}{rows:List ou}{S:List (Int×List aj×Int)}{t:TypeId}{x:cL}{v:Value}{n e:Int}{l:List aj}(cK:v=x.val)(h:(bh (R:=R) [h_ rows S,aP cx t 1 v l]).p F w):(h_ (R:=R) (rows++[⟨n,x,e⟩]) (S++[(n,l,e)])).p F w:=by
 obtain⟨fs,bz,h1,ah,aB,bH⟩:=u9 h;exact c3.app (c3.imp (λ_ _ k=>⟨k.1,k.2.1.mono aB,k.2.2⟩) h1) (.cons ⟨rfl,cK▸(td ah).mono bH,rfl⟩ .nil)
def kM{R:Nat->Prop}(lD DS:TypeId)(dc:Nat)(q:List bb):dr R:=nF λv:Value=>bh [aw dc [v] lD,aP ej DS 11 v q]
def hZ{R:Nat->Prop}(ql CS eI Kt lD DS:TypeId)(bv:Nat)(cZ c0:Value)(c:cG)(id:Int)(s:dy):dr R:=nF λx:Nat×Nat×Value×List ou =>
 bh [aw bv [cZ,c0,.int .i64 c.workers,.int .i64 c.lL,.int .i64 c.sX,.int .i64 c.batch,.int .i64 c.sY,.int .i64 c.sZ,.int .i64 c.first,.int .i64 c.cap,.int .i64 c.s0,.int .i64 c.s3,.int .i64 id,ptr x.1 0,.bool s.up,.int .i64 (uE s),x.2.2.1,ptr x.2.1 0] ql,kj CS eI x.1 s.life s.K,aP hY Kt 3 x.2.2.1 x.2.2.2,h_ x.2.2.2 (vN (cn c id) s),kM lD DS x.2.1 (rq s)]
theorem w8{R F:Nat->Prop}{w:World}{α:Type}{enc:α->List Value}{e:TypeId}{sz:Nat}{v:Value}{l jU:List α}(bl:l=jU)(h:(aP (R:=R) enc e sz v l).p F w):(aP (R:=R) enc e sz v jU).p F w:=by subst bl;exact h
theorem au.mF{R bV:Nat->Prop}{w0 w:World}{L:List (dr R)}{ql CS eI Kt lD DS:TypeId}{bv di dc:Nat}{cZ c0 nI:Value}{c:cG}{id:Int}{s:dy}{rows:List ou}(h:au R bV w0 w L)(i:Nat)
 (ar:L[i]?=some (bh [aw bv [cZ,c0,.int .i64 c.workers,.int .i64 c.lL,.int .i64 c.sX,.int .i64 c.batch,.int .i64 c.sY,.int .i64 c.sZ,.int .i64 c.first,.int .i64 c.cap,.int .i64 c.s0,.int .i64 c.s3,.int .i64 id,ptr di 0,.bool s.up,.int .i64 (uE s),nI,ptr dc 0] ql,kj CS eI di s.life s.K,aP hY Kt 3 nI rows,h_ rows (vN (cn c id) s),kM lD DS dc (rq s)])):au R bV w0 w (L.set i (hZ ql CS eI Kt lD DS bv cZ c0 c id s)):=
 h.imp ar λF x=>⟨(di,dc,nI,rows),x⟩
def vO{R:Nat->Prop}(ln:TypeId)(v:Value)(ms:List eY):dr R:=nF λnw:List Value=>bh [aP sN ln 28 v (nw.zip ms),ps (nw.length=ms.length) (bh ((nw.zip ms).map λx=>fc eK [(x.1,jQ x.2)]))]
theorem al5{R:Nat->Prop}{ln:TypeId}{w:World}:(vO (R:=R) ln (.slice none 0 0) []).p (λ_=>False) w:=
 ⟨[],λ_ _=>False,λi r ar=>by
  match i,ar with
  | 0,ar=>cases ar;exact⟨0,Acc.nil,λb ab=>by omega⟩
  | 1,ar=>cases ar;exact⟨rfl,λ_ _=>False,⟨λi r ar=>by simp at ar,⟨λ_ _ h=>False.elim h,λ_ _ _ _ h _=>False.elim h⟩⟩⟩,λ_ _ h=>h.elim,λ_ _ _ _ h _=>h.elim⟩
theorem PA{R:Nat->Prop}{ln:TypeId}{F:Nat->Prop}{w:World}{v vi:Value}{m:eY}(h:(bh [aP (R:=R) sN ln 28 v [(vi,m)],bh [fc eK [(vi,jQ m)]]]).p F w):(vO (R:=R) ln v [m]).p F w:=by
 obtain⟨fi,h1,ah,aB⟩:=h;refine⟨[vi],fi,λi r ar=>?_,ah,aB⟩
 match i,ar with
 | 0,ar=>cases ar;exact h1 0 _ rfl
 | 1,ar=>cases ar;exact⟨rfl,h1 1 _ rfl⟩
theorem au.PB{R bV:Nat->Prop}{w0 w:World}{L:List (dr R)}{i:Nat}{rows:List ou}{S:List (Int×List aj×Int)}(h:au R bV w0 w L)(ar:L[i]?=some (h_ rows S)):c3 (λr e=>r.n=e.1/\aq cx w (dq 0 w.heap.size) r.w.val e.2.1/\r.e=e.2.2) rows S:=by
 obtain⟨F,h1,ah⟩:=h.get ar;exact c3.imp (λ_ _ k=>⟨k.1,k.2.1.mono (λb ab=>⟨Nat.zero_le _,ah b ab⟩),k.2.2⟩) h1
theorem al6{R F:Nat->Prop}{w:World}{lD o9:TypeId}{dc:Nat}{q:List bb}(h:(j1 (R:=R) lD o9 dc q).p F w):(q.map bb.pl).Nodup:=by
 obtain⟨_,dM,_⟩:=h;exact jr.vk dM
end Go.aG
namespace Go.ak
open Go.aG
def qn(id:Int)(ks:List Int)(s:dy)(x:l1):dy:=
 if x.lK=0 then(jn id s).1 else if 1<=x.lK/\x.lK<=4 then kn id ks s (qm x) else
 if x.lK=5 then { s with up:=false } else if x.lK=6 then(if s.up=true then s else DI s) else
 if x.lK=7 then { s with K:=xH s.K x.i x.j x.x } else if x.lK=8 then { s with K:=xI s.K x.i } else s
section
variable {id:Int} {ks:List Int} {s:dy} {x:l1}
theorem al7(h:x.lK=0):qn id ks s x=(jn id s).1:=if_pos h
theorem Ku(h:1<=x.lK/\x.lK<=4):qn id ks s x=kn id ks s (qm x):=by unfold qn;rw[if_neg aa,if_pos h]
theorem al8(h:x.lK=5):qn id ks s x={ s with up:=false }:=by unfold qn;rw[if_neg aa,if_neg aa,if_pos h]
theorem al9(h:x.lK=6):qn id ks s x=(if s.up=true then s else DI s):=by unfold qn;rw[if_neg aa,if_neg aa,if_neg aa,if_pos h]
theorem al_(h:x.lK=7):qn id ks s x={ s with K:=xH s.K x.i x.j x.x }:=by unfold qn;rw[if_neg aa,if_neg aa,if_neg aa,if_neg aa,if_pos h]
theorem al'(h:x.lK=8):qn id ks s x={ s with K:=xI s.K x.i }:=by unfold qn;rw[if_neg aa,if_neg aa,if_neg aa,if_neg aa,if_neg aa,if_pos h]
theorem ama(h:¬ (0<=x.lK/\x.lK<=8)):qn id ks s x=s:=by
 unfold qn;rw[if_neg aa,if_neg aa,if_neg aa,if_neg aa,if_neg aa,if_neg aa]
end
structure lo(c:cG)(id:Int)(n:Nat)(s:dy):Prop where
 ok:hN (cn c id) n s
 K:ot c id s.K
 B:ot c id s.B
section
variable {c:cG} {id:Int} {n:Nat} {s:dy}
theorem Y8(id:Int)(s:dy):(jn id s).1.K=s.K/\(jn id s).1.B=s.B:=by
 unfold jn;split
 . exact⟨rfl,rfl⟩
 . split
   . split<;>exact⟨rfl,rfl⟩
   . exact⟨rfl,rfl⟩
theorem yk{x:l1}(h:x.Ok)(a_:x.a.text.length<=1000)(ay:x.a.after.word.length<=1000):(qm x).Ok:=by
 unfold qm;split
 . exact⟨h.i,h.j,h.x⟩
 . split
   . exact⟨h.a,a_,ay⟩
   . split
     . exact⟨h.i,h.j⟩
     . exact⟨h.i,h.j⟩
theorem uG(x:l1)(r:qk):qm x≠.iV r:=by
 unfold qm;split
 . exact λe=>by cases e
 . split
   . exact λe=>by cases e
   . split<;>exact λe=>by cases e
theorem lo.new(hm:may c=true)(bl:c.words.length<=1000)(id:Int):lo c id 1 (w3 c id):=⟨YW hm id bl,ot.new hm id,ot.new hm id⟩
theorem lo.more{m:Nat}(h:lo c id n s)(hm:n<=m):lo c id m s:=⟨h.ok.more hm,h.K,h.B⟩
theorem lo.take{m:eY}(h:lo c id n s)(hm:m.Ok):lo c id (n+1) (kn id (cn c id) s m):=
 ⟨h.ok.take hm,by rw[(Y2 ..).1];exact h.K,by rw[(Y2 ..).2];exact h.B⟩
theorem lo.Pd(h:lo c id n s):lo c id n (jn id s).1:=⟨h.ok.Pd,by rw[(Y8 ..).1];exact h.K,by rw[(Y8 ..).2];exact h.B⟩
theorem lo.Pc(h:lo c id n s):lo c id n { s with up:=false }:=⟨h.ok.Pc,h.K,h.B⟩
theorem lo.begin(h:lo c id n s):lo c id (n+1) (DI s):=⟨h.ok.begin,h.K,h.K⟩
theorem lo.Ko{K:List cV}(hm:may c=true)(bl:c.words.length<=1000)(h:lo c id n s)(eU:ot c id K):lo c id n { s with K:=K }:=⟨h.ok.Ko eU.ok (eU.wl hm bl),eU,h.B⟩
theorem lo.done{x:l1}(hm:may c=true)(bl:c.words.length<=1000)(h:lo c id n s)(ag:x.Ok)(a_:x.a.text.length<=1000)(ay:x.a.after.word.length<=1000):lo c id (n+1) (qn id (cn c id) s x):=by
 have h1:=h.more (Nat.le_succ n);unfold qn;split
 . exact h1.Pd
 . split
   . exact h.take (yk ag a_ ay)
   . split
     . exact h1.Pc
     . split
       . split
         . exact h1
         . exact h.begin
       . split
         . exact h1.Ko hm bl (h.K.AQ _ _ _)
         . split
           . exact h1.Ko hm bl (h.K.YS _)
           . exact h1
end
theorem Y9(id:Int){ks:List Int}{n:Nat}{s:dy}(h:hN ks n s):(jn id s).2=[]\/(∃a b,(jn id s).2=[.hE a b])\/∃r,(jn id s).2=[.iV r]/\r.items.length<=1000000:=by
 unfold jn;split
 . exact .inl rfl
 . split
   . split
     . rename_i a q dM;refine .inr (.inr ⟨_,rfl,?_⟩);have h1:=ahc (g:=gn s.B a.shard) (words:=ho s.B a.shard) (s:=a.text) (k:=a.k) (batch:=a.batch) (first:=a.first) (after:=a.after);have ah:=h.c4 a.shard;show(pB _ _ _ _ _ _ _).1.length<=_;omega
     . exact .inr (.inl ⟨_,_,rfl⟩)
   . exact .inr (.inl ⟨_,_,rfl⟩)
end Go.ak
namespace Go.aG
open Go Go.ak
def amb(iX iy iY iZ i1:TypeId)(x:Value×eY):List Value:=[.int .i64 0,jx iX iy iY iZ i1 x.1 x.2]
def Y_(iX iy iY iZ i1:TypeId)(x:Value×eY):Int×Value:=((0:Int),jx iX iy iY iZ i1 x.1 x.2)
theorem aq.map{α β:Type}{enc:α->List Value}{Y':β->List Value}{f:α->β}(bD:∀x,Y' (f x)=enc x){w:World}{F:Nat->Prop}{v:Value}{l:List α}(h:aq enc w F v l):aq Y' w F v (l.map f):=by
 obtain⟨a,cap,h1,ah,aB,bH⟩:=h;refine⟨a,cap,by rw[List.length_map];exact h1,by rw[List.length_map];exact ah,aB,?_⟩;rcases bH with rfl|⟨b,off,c_,e1,kz⟩
 . exact .inl rfl
 . exact .inr ⟨b,off,c_,e1,by rw[List.flatMap_map];simpa only[bD] using kz⟩
theorem amc{w:World}{b o:Nat}{x:Value×eY}(h:Row w b o (sN x)):Row w b (o+1) (DR x.1 x.2):=λi v cK=>by
 have:=h (i+1) v (by rw[sN,List.getElem?_cons_succ];exact cK)
 rwa[show o+(i+1)=o+1+i by omega] at this
theorem Za{iX iy iY iZ i1:TypeId}{w:World}:∀{xs:List (Value×eY)},(∀x∈xs,aq eK w (dq 0 w.heap.size) x.1 (jQ x.2))->c3 (Ge iX iy iY iZ i1 w) (xs.map (Y_ iX iy iY iZ i1)) (Br (xs.map (·.2)))
 | [],_=>.nil
 | x::xs,h=>.cons ⟨rfl,x.1,rfl,h x (List.mem_cons_self ..)⟩ (Za λy aE=>h y (List.mem_cons_of_mem _ aE))
def Kv{R:Nat->Prop}(ln:TypeId)(v:Value)(xs:List (Value×eY)):dr R:=bh [aP sN ln 28 v xs,bh (xs.map λx=>fc eK [(x.1,jQ x.2)])]
theorem au.amd{R bV:Nat->Prop}{w0 w:World}{L:List (dr R)}{ln:TypeId}{v:Value}{ms:List eY}(h:au R bV w0 w L)(i:Nat)(ar:L[i]?=some (vO ln v ms)):∃xs,xs.map (·.2)=ms/\au R bV w0 w (L.set i (Kv ln v xs)):=by
 obtain⟨nw,h1⟩:=h.Mk ar
 have bl:nw.length=ms.length:=by
  obtain⟨F,⟨fi,bt,_⟩,_⟩:=h1.get (i:=i) (by rw[List.getElem?_set_self (List.getElem?_eq_some_iff.1 ar).1])
  exact(bt 1 _ rfl).1
 refine⟨nw.zip ms,by rw[List.map_snd_zip (Nat.le_of_eq bl.symm)],?_⟩
 have ah:=h1.imp (A':=Kv ln v (nw.zip ms)) (List.getElem?_set_self (List.getElem?_eq_some_iff.1 ar).1) λF k=>by
  obtain⟨fi,bt,cD,dK⟩:=k
  refine⟨fi,λi r ar=>?_,cD,dK⟩
  match i,ar with
  | 0,ar=>cases ar;exact bt 0 _ rfl
  | 1,ar=>cases ar;exact(bt 1 _ rfl).2
 rwa[List.set_set] at ah
theorem au.Zb{R bV:Nat->Prop}{w0 w:World}{L:List (dr R)}{ln:TypeId}{v:Value}{xs:List (Value×eY)}(h:au R bV w0 w L)(i:Nat)(ar:L[i]?=some (Kv ln v xs)):aq sN w (dq 0 w.heap.size) v xs/\∀x∈xs,aq eK w (dq 0 w.heap.size) x.1 (jQ x.2):=by
 obtain⟨F,⟨fi,h1,ah,_⟩,bs⟩:=h.get ar;refine⟨(td (h1 0 _ rfl)).mono λb ab=>⟨Nat.zero_le _,bs b (ah 0 b ab).1.1⟩,λx ag=>?_⟩;obtain⟨YN,bt,cD,_⟩:=h1 1 _ rfl;obtain⟨j,bo⟩:=List.getElem?_of_mem ag;have aT:aq eK w (λb=>YN j b\/R b) x.1 (jQ x.2):=bt j (fc eK [(x.1,jQ x.2)]) (by rw[List.getElem?_map,bo];rfl) (x.1,jQ x.2) (List.mem_cons_self ..);exact aT.mono λb ab=>⟨Nat.zero_le _,ab.elim (λab=>bs b (ah 1 b (cD j b ab).1.1).1.1) (h.tY b)⟩
end Go.aG
namespace Go.ak
open Go.aG
def w9(x:l1):Bool:=decide (x.a.text.length>100) || decide (x.a.after.word.length>100)
def Bt(c:cG)(acts:List l1)(nb:Int):Bool:=(decide ((acts.length:Int)<=nb) && acts.any w9) || (sg c || decide ((acts.length:Int)>nb))
theorem ame{c:cG}{acts:List l1}{nb:Int}(h:Bt c acts nb=false):sg c=false/\(acts.length:Int)<=nb/\∀a∈acts,a.a.text.length<=100/\a.a.after.word.length<=100:=by
 unfold Bt at h;simp only[Bool.or_eq_false_iff,Bool.and_eq_false_iff,decide_eq_false_iff_not] at h;obtain⟨h1,ah,aB⟩:=h;refine⟨ah,by omega,λa ay=>?_⟩;rcases h1 with h1|h1
 . omega
 . rw[List.any_eq_false] at h1;have:=h1 a ay;unfold w9 at this;simp only[Bool.not_eq_true,Bool.or_eq_false_iff,decide_eq_false_iff_not] at this;omega
theorem Zc{c:cG}{acts:List l1}{nb:Int}{i:Nat}{x:l1}(ag:acts[i]?=some x)(hm:(acts.length:Int)<=nb)(h:(x.a.text.length:Int)>100\/(x.a.after.word.length:Int)>100):true=Bt c acts nb:=by
 unfold Bt;have h1:acts.any w9=true:=List.any_eq_true.2 ⟨x,List.mem_of_getElem? ag,by unfold w9;rcases h with h|h<;>simp<;>omega⟩;rw[h1,decide_eq_true hm];rfl
theorem amf{c:cG}{acts:List l1}{nb:Int}{i:Nat}{b:Bool}(aR:∀z∈acts.take i,w9 z=false)(ar:acts.length<=i\/(acts.length:Int)>nb)(ab:b=(sg c || decide ((acts.length:Int)>nb))):b=Bt c acts nb:=by
 rw[ab];unfold Bt;rcases ar with ar|ar
 . rw[List.take_of_length_le ar] at aR;have:acts.any w9=false:=List.any_eq_false.2 λx ag=>by simp[aR x ag]
   rw[this,Bool.and_false,Bool.false_or]
 . rw[decide_eq_false (by omega:¬ (acts.length:Int)<=nb),Bool.false_and,Bool.false_or]
theorem amg{acts:List l1}{i:Nat}{x:l1}(aR:∀z∈acts.take i,w9 z=false)(ag:acts[i]?=some x)(h1:¬ (x.a.text.length:Int)>100)(ah:¬ (x.a.after.word.length:Int)>100):∀z∈acts.take (i+1),w9 z=false:=by
 intro z cO;rw[List.take_add_one,ag] at cO;simp only[Option.toList_some,List.mem_append,List.mem_singleton] at cO;rcases cO with cO|rfl
 . exact aR z cO
 . unfold w9;rw[decide_eq_false aa,decide_eq_false aa];rfl
theorem amh{ks:List Int}{n:Nat}{s:dy}(h:hN ks n s)(k:Int):(lZ ks s k).1.length<=1000:=by
 unfold lZ;split
 . exact Nat.zero_le _
 . split
   . split
     . exact h.c4 k
     . exact Nat.zero_le _
   . exact Nat.zero_le _
theorem ami{ks:List Int}{n:Nat}{s:dy}(h:hN ks n s):(rq s).length<=n:=by
 unfold rq;split
 . exact h.mV
 . exact Nat.zero_le _
end Go.ak
namespace Go.Proofs
open Tryz
open Go.aG Go.ak
theorem Kw:ey Tryz.prog 20=some (false,1,16,[.nilIface]):=aS
theorem Zd:ey Tryz.prog 28=some (false,1,8,[ad]):=aS
theorem nY:ey Tryz.prog 38=some (true,3,24,[ad,ad,ad]):=aS
theorem qK:ey Tryz.prog 39=some (false,1,24,[.slice none 0 0]):=aS
theorem qL:ey Tryz.prog 44=some (true,2,24,[ad,.nilIface]):=aS
theorem uH:ey Tryz.prog 46=some (true,2,16,[ad,ad]):=aS
theorem pV:ey Tryz.prog 49=some (true,8,80,[ad,ad,ad,ad,ad,ad,.slice none 0 0,.bool false]):=aS
theorem PC:ey Tryz.prog 62=some (false,1,8,[.pointer none]):=aS
theorem sO:ey Tryz.prog 71=some (true,15,136,[ad,ad,ad,ad,ad,ad,ad,ad,ad,aD [],ad,ad,.bool false,ad,aD []]):=aS
theorem Gi:ey Tryz.prog 92=some (false,1,8,[.map none]):=aS
theorem Kx:ey Tryz.prog 101=some (true,2,16,[.pointer none,ad]):=aS
theorem kc:ey Tryz.prog 104=some (true,2,16,[ad,ad]):=aS
theorem zB:ey Tryz.prog 127=some (false,1,8,[.pointer none]):=aS
theorem zC:ey Tryz.prog 130=some (false,1,24,[.slice none 0 0]):=aS
theorem Bu:ey Tryz.prog 131=some (false,1,8,[.pointer none]):=aS
theorem tA:ey Tryz.prog 140=some (true,27,248,[ad,ad,ad,ad,ad,ad,ad,ad,ad,ad,ad,aD [],ad,ad,.bool false,ad,aD [],ad,ad,ad,ad,ad,ad,.slice none 0 0,.bool false,ad,ad]):=aS
theorem yl:ey Tryz.prog 147=some (false,1,24,[.slice none 0 0]):=aS
theorem zD:ey Tryz.prog 194=some (true,3,56,[ad,.slice none 0 0,.slice none 0 0]):=aS
theorem Gj:ey Tryz.prog 198=some (true,3,40,[ad,.slice none 0 0,ad]):=aS
theorem zE:ey Tryz.prog 200=some (true,28,256,[ad,ad,ad,ad,ad,ad,ad,ad,ad,ad,ad,ad,aD [],ad,ad,.bool false,ad,aD [],ad,ad,ad,ad,ad,ad,.slice none 0 0,.bool false,ad,ad]):=aS
theorem zF:ey Tryz.prog 249=some (false,1,24,[.slice none 0 0]):=aS
theorem r':ey Tryz.prog 251=some (true,2,32,[.bool false,.slice none 0 0]):=aS
theorem DT:ey Tryz.prog 252=some (true,2,16,[ad,ad]):=aS
theorem qM:ey Tryz.prog 286=some (false,1,24,[.slice none 0 0]):=aS
theorem uI:ey Tryz.prog 290=some (true,2,48,[.slice none 0 0,.slice none 0 0]):=aS
theorem Ze:dJ Tryz.prog 38 0=some 0:=aS
theorem Zf:dJ Tryz.prog 38 1=some 1:=aS
theorem Ky:dJ Tryz.prog 38 2=some 2:=aS
theorem Zg:dJ Tryz.prog 44 0=some 0:=aS
theorem Kz:dJ Tryz.prog 44 1=some 1:=aS
theorem Zh:dJ Tryz.prog 49 0=some 0:=aS
theorem Zi:dJ Tryz.prog 49 1=some 1:=aS
theorem Zj:dJ Tryz.prog 49 2=some 2:=aS
theorem Zk:dJ Tryz.prog 49 3=some 3:=aS
theorem Zl:dJ Tryz.prog 49 4=some 4:=aS
theorem Zm:dJ Tryz.prog 49 5=some 5:=aS
theorem KA:dJ Tryz.prog 49 6=some 6:=aS
theorem PD:dJ Tryz.prog 49 7=some 7:=aS
theorem Zn:dJ Tryz.prog 71 0=some 0:=aS
theorem zG:dJ Tryz.prog 71 1=some 1:=aS
theorem Gk:dJ Tryz.prog 71 2=some 2:=aS
theorem PE:dJ Tryz.prog 71 3=some 3:=aS
theorem KB:dJ Tryz.prog 71 4=some 4:=aS
theorem KC:dJ Tryz.prog 95 0=some 0:=aS
theorem Bv:dJ Tryz.prog 95 1=some 1:=aS
theorem DU:dJ Tryz.prog 95 2=some 2:=aS
theorem amj:dJ Tryz.prog 95 3=some 3:=aS
theorem PF:dJ Tryz.prog 95 4=some 4:=aS
theorem Gl:dJ Tryz.prog 95 5=some 5:=aS
theorem Gm:dJ Tryz.prog 95 6=some 6:=aS
theorem amk:dJ Tryz.prog 101 0=some 0:=aS
theorem Zo:dJ Tryz.prog 101 1=some 1:=aS
theorem Zp:dJ Tryz.prog 104 0=some 0:=aS
theorem Zq:dJ Tryz.prog 104 1=some 1:=aS
theorem aml:dJ Tryz.prog 133 0=some 0:=aS
theorem Gn:dJ Tryz.prog 133 1=some 12:=aS
theorem zH:dJ Tryz.prog 133 2=some 13:=aS
theorem qo:dJ Tryz.prog 133 3=some 14:=aS
theorem zI:dJ Tryz.prog 133 4=some 15:=aS
theorem zJ:dJ Tryz.prog 133 5=some 16:=aS
theorem Bw:dJ Tryz.prog 133 6=some 17:=aS
theorem ym:dJ Tryz.prog 140 0=some 0:=aS
theorem amm:dJ Tryz.prog 140 1=some 1:=aS
theorem Zr:dJ Tryz.prog 140 2=some 3:=aS
theorem Zs:dJ Tryz.prog 140 3=some 6:=aS
theorem amn:dJ Tryz.prog 140 4=some 17:=aS
theorem PG:dJ Tryz.prog 140 5=some 25:=aS
theorem yn:dJ Tryz.prog 149 0=some 0:=aS
theorem DV:dJ Tryz.prog 149 1=some 1:=aS
theorem qN:dJ Tryz.prog 151 0=some 0:=aS
theorem amo:dJ Tryz.prog 194 0=some 0:=aS
theorem Zt:dJ Tryz.prog 194 1=some 1:=aS
theorem PH:dJ Tryz.prog 194 2=some 2:=aS
theorem amp:dJ Tryz.prog 198 0=some 0:=aS
theorem amq:dJ Tryz.prog 198 1=some 1:=aS
theorem amr:dJ Tryz.prog 198 2=some 2:=aS
theorem ams:dJ Tryz.prog 200 0=some 0:=aS
theorem amt:dJ Tryz.prog 200 1=some 1:=aS
theorem amu:dJ Tryz.prog 247 0=some 0:=aS
theorem PI:dJ Tryz.prog 247 1=some 1:=aS
theorem Gp:dJ Tryz.prog 247 2=some 2:=aS
theorem amv:dJ Tryz.prog 251 0=some 0:=aS
theorem zK:dJ Tryz.prog 251 1=some 1:=aS
theorem qO:dJ Tryz.prog 288 0=some 0:=aS
theorem PJ:dJ Tryz.prog 290 0=some 0:=aS
theorem Bx:dJ Tryz.prog 290 1=some 1:=aS
theorem amw:ey Tryz.prog 33=some (true,2,24,[ad,aD []]):=aS
theorem Zu(a b:bb)(w:World):(Op.equalIn 10000 35 (.agg #[U a.slot,U a.query,U a.shard,U a.seq,U a.ga,aD a.text,U a.k,U a.batch,.bool a.first,U a.after.cp,aD a.after.word]) (.agg #[U b.slot,U b.query,U b.shard,U b.seq,U b.ga,aD b.text,U b.k,U b.batch,.bool b.first,U b.after.cp,aD b.after.word])).run Tryz.prog w=.ok (decide (a=b)) w:=by
 obtain⟨a0,ib,a2,a3,a4,a5,DK,DL,Gq,⟨a9,KD⟩⟩:=a;obtain⟨m_,aL,aQ,bx,bI,cA,dd,gN,hB,⟨kv,lH⟩⟩:=b;refine(ald (P:=Tryz.prog) (t:=35) (t2:=33) (k:=9) (o:=9) (ks:=[(0,.int .i64),(1,.int .i64),(2,.int .i64),(3,.int .i64),(4,.int .i64),(5,.str),(6,.int .i64),(7,.int .i64),(8,.bool)]) (ks2:=[(0,.int .i64),(1,.str)]) (q:=(a0==m_) && (ib==aL) && (a2==aQ) && (a3==bx) && (a4==bI) && (a5==cA) && (DK==dd) && (DL==gN) && (Gq==hB)) (q2:=(a9==kv) && (KD==lH)) (x2:=#[U a9,aD KD]) (y2:=#[U kv,aD lH]) c6 c6 c6 c6 c6 c6 c6 amw ?_ rfl rfl ?_ w).trans ?_
 . skip
   by_cases bK:a0=m_
   case neg=>(have g0:=beq_eq_false_iff_ne.2 bK);simp[mq,ng,aD,toList_mk,bK,g0]
   subst bK;by_cases h1:ib=aL
   case neg=>(have g1:=beq_eq_false_iff_ne.2 h1);simp[mq,ng,aD,toList_mk,h1,g1]
   subst h1;by_cases ah:a2=aQ
   case neg=>(have g2:=beq_eq_false_iff_ne.2 ah);simp[mq,ng,aD,toList_mk,ah,g2]
   subst ah;by_cases aB:a3=bx
   case neg=>(have g3:=beq_eq_false_iff_ne.2 aB);simp[mq,ng,aD,toList_mk,aB,g3]
   subst aB;by_cases bH:a4=bI
   case neg=>(have g4:=beq_eq_false_iff_ne.2 bH);simp[mq,ng,aD,toList_mk,bH,g4]
   subst bH;by_cases c_:a5=cA
   case neg=>(have g5:=beq_eq_false_iff_ne.2 c_);simp[mq,ng,aD,toList_mk,c_,g5]
   subst c_;by_cases e1:DK=dd
   case neg=>(have g6:=beq_eq_false_iff_ne.2 e1);simp[mq,ng,aD,toList_mk,e1,g6]
   subst e1;by_cases kz:DL=gN
   case neg=>(have g7:=beq_eq_false_iff_ne.2 kz);simp[mq,ng,aD,toList_mk,kz,g7]
   subst kz;by_cases si:Gq=hB
   case neg=>(have g8:=beq_eq_false_iff_ne.2 si);simp[mq,ng,aD,toList_mk,si,g8]
   subst si;simp[mq,ng,aD,toList_mk]
 . skip
   by_cases uY:a9=kv
   case neg=>(have g9:=beq_eq_false_iff_ne.2 uY);simp[mq,ng,aD,toList_mk,uY,g9]
   subst uY;by_cases tS:KD=lH
   case neg=>(have g10:=beq_eq_false_iff_ne.2 tS);simp[mq,ng,aD,toList_mk,tS,g10]
   subst tS;simp[mq,ng,aD,toList_mk]
 . congr 1
   by_cases bK:a0=m_
   case neg=>(have g0:=beq_eq_false_iff_ne.2 bK);simp[bK,g0]
   subst bK;by_cases h1:ib=aL
   case neg=>(have g1:=beq_eq_false_iff_ne.2 h1);simp[h1,g1]
   subst h1;by_cases ah:a2=aQ
   case neg=>(have g2:=beq_eq_false_iff_ne.2 ah);simp[ah,g2]
   subst ah;by_cases aB:a3=bx
   case neg=>(have g3:=beq_eq_false_iff_ne.2 aB);simp[aB,g3]
   subst aB;by_cases bH:a4=bI
   case neg=>(have g4:=beq_eq_false_iff_ne.2 bH);simp[bH,g4]
   subst bH;by_cases c_:a5=cA
   case neg=>(have g5:=beq_eq_false_iff_ne.2 c_);simp[c_,g5]
   subst c_;by_cases e1:DK=dd
   case neg=>(have g6:=beq_eq_false_iff_ne.2 e1);simp[e1,g6]
   subst e1;by_cases kz:DL=gN
   case neg=>(have g7:=beq_eq_false_iff_ne.2 kz);simp[kz,g7]
   subst kz;by_cases si:Gq=hB
   case neg=>(have g8:=beq_eq_false_iff_ne.2 si);simp[si,g8]
   subst si;by_cases uY:a9=kv
   case neg=>(have g9:=beq_eq_false_iff_ne.2 uY);simp[uY,g9]
   subst uY;by_cases tS:KD=lH
   case neg=>(have g10:=beq_eq_false_iff_ne.2 tS);simp[tS,g10]
   subst tS;simp
theorem amx(a b:Gd)(w:World):(Op.equalIn 10000 38 (.agg #[U a.a,U a.b,U a.c]) (.agg #[U b.a,U b.b,U b.c])).run Tryz.prog w=.ok (decide (a=b)) w:=
 Cq (ks:=[(0,.int .i64),(1,.int .i64),(2,.int .i64)]) c6 c6 c6 (by
  obtain⟨a0,ib,a2⟩:=a
  obtain⟨m_,aL,aQ⟩:=b
  (by_cases bK:a0=m_)<;>(first|(have g0:=beq_eq_false_iff_ne.2 bK)|(have g0:=beq_iff_eq.2 bK))<;>(by_cases h1:ib=aL)<;>(first|(have g1:=beq_eq_false_iff_ne.2 h1)|(have g1:=beq_iff_eq.2 h1))<;>(by_cases ah:a2=aQ)<;>(first|(have g2:=beq_eq_false_iff_ne.2 ah)|(have g2:=beq_iff_eq.2 ah))<;>simp[mq,ng,aD,toList_mk,bK,h1,ah,g0,g1,g2]) w
theorem amy(a b:w5)(w:World):(Op.equalIn 10000 46 (.agg #[U a.a,U a.b]) (.agg #[U b.a,U b.b])).run Tryz.prog w=.ok (decide (a=b)) w:=
 Cq (ks:=[(0,.int .i64),(1,.int .i64)]) c6 c6 c6 (by
  obtain⟨a0,ib⟩:=a
  obtain⟨m_,aL⟩:=b
  (by_cases bK:a0=m_)<;>(first|(have g0:=beq_eq_false_iff_ne.2 bK)|(have g0:=beq_iff_eq.2 bK))<;>(by_cases h1:ib=aL)<;>(first|(have g1:=beq_eq_false_iff_ne.2 h1)|(have g1:=beq_iff_eq.2 h1))<;>simp[mq,ng,aD,toList_mk,bK,h1,g0,g1]) w
theorem amz(a b:w5)(w:World):(Op.equalIn 10000 104 (.agg #[U a.a,U a.b]) (.agg #[U b.a,U b.b])).run Tryz.prog w=.ok (decide (a=b)) w:=
 Cq (ks:=[(0,.int .i64),(1,.int .i64)]) c6 c6 c6 (by
  obtain⟨a0,ib⟩:=a
  obtain⟨m_,aL⟩:=b
  (by_cases bK:a0=m_)<;>(first|(have g0:=beq_eq_false_iff_ne.2 bK)|(have g0:=beq_iff_eq.2 bK))<;>(by_cases h1:ib=aL)<;>(first|(have g1:=beq_eq_false_iff_ne.2 h1)|(have g1:=beq_iff_eq.2 h1))<;>simp[mq,ng,aD,toList_mk,bK,h1,g0,g1]) w
theorem pW:vg (Tryz.prog.underlying 35)=true:=aS
theorem qP:vg (Tryz.prog.underlying 38)=true:=aS
theorem qQ:vg (Tryz.prog.underlying 46)=true:=aS
theorem w_:vg (Tryz.prog.underlying 49)=true:=aS
theorem qp:vg (Tryz.prog.underlying 104)=true:=aS
theorem PK:b8 Tryz.prog 11=true:=aS
theorem Zv:b8 Tryz.prog 12=true:=aS
theorem DW:b8 Tryz.prog 14=true:=aS
theorem amA:b8 Tryz.prog 15=true:=aS
theorem PL:b8 Tryz.prog 16=true:=aS
theorem amB:b8 Tryz.prog 17=true:=aS
theorem amC:b8 Tryz.prog 18=true:=aS
theorem amD:b8 Tryz.prog 19=true:=aS
theorem amE:b8 Tryz.prog 20=true:=aS
theorem KE:b8 Tryz.prog 21=true:=aS
theorem Zw:b8 Tryz.prog 22=true:=aS
theorem PM:b8 Tryz.prog 26=true:=aS
theorem amF:b8 Tryz.prog 27=true:=aS
theorem amG:b8 Tryz.prog 28=true:=aS
theorem amH:b8 Tryz.prog 29=true:=aS
theorem PN:b8 Tryz.prog 30=true:=aS
theorem zL:b8 Tryz.prog 31=true:=aS
theorem zM:b8 Tryz.prog 32=true:=aS
theorem amI:b8 Tryz.prog 33=true:=aS
theorem Zx:b8 Tryz.prog 34=true:=aS
theorem By:b8 Tryz.prog 35=true:=aS
theorem amJ:b8 Tryz.prog 36=true:=aS
theorem Zy:b8 Tryz.prog 37=true:=aS
theorem amK:b8 Tryz.prog 38=true:=aS
theorem amL:b8 Tryz.prog 41=true:=aS
theorem amM:b8 Tryz.prog 43=true:=aS
theorem amN:b8 Tryz.prog 45=true:=aS
theorem Zz:b8 Tryz.prog 46=true:=aS
theorem amO:b8 Tryz.prog 47=true:=aS
theorem amP:b8 Tryz.prog 48=true:=aS
theorem amQ:b8 Tryz.prog 49=true:=aS
theorem ZA:b8 Tryz.prog 50=true:=aS
theorem amR:b8 Tryz.prog 51=true:=aS
theorem amS:b8 Tryz.prog 52=true:=aS
theorem ZB:b8 Tryz.prog 53=true:=aS
theorem amT:b8 Tryz.prog 62=true:=aS
theorem amU:b8 Tryz.prog 63=true:=aS
theorem amV:b8 Tryz.prog 64=true:=aS
theorem ZC:b8 Tryz.prog 65=true:=aS
theorem amW:b8 Tryz.prog 66=true:=aS
theorem amX:b8 Tryz.prog 67=true:=aS
theorem amY:b8 Tryz.prog 68=true:=aS
theorem KF:b8 Tryz.prog 69=true:=aS
theorem KG:b8 Tryz.prog 70=true:=aS
theorem amZ:b8 Tryz.prog 71=true:=aS
theorem am0:b8 Tryz.prog 72=true:=aS
theorem am1:b8 Tryz.prog 73=true:=aS
theorem am2:b8 Tryz.prog 74=true:=aS
theorem am3:b8 Tryz.prog 75=true:=aS
theorem PO:b8 Tryz.prog 76=true:=aS
theorem am4:b8 Tryz.prog 77=true:=aS
theorem am5:b8 Tryz.prog 78=true:=aS
theorem am6:b8 Tryz.prog 83=true:=aS
theorem KH:b8 Tryz.prog 88=true:=aS
theorem am7:b8 Tryz.prog 89=true:=aS
theorem am8:b8 Tryz.prog 92=true:=aS
theorem am9:b8 Tryz.prog 93=true:=aS
theorem am_:b8 Tryz.prog 94=true:=aS
theorem am':b8 Tryz.prog 95=true:=aS
theorem ana:b8 Tryz.prog 109=true:=aS
theorem ZD:b8 Tryz.prog 110=true:=aS
theorem ZE:b8 Tryz.prog 111=true:=aS
theorem anb:b8 Tryz.prog 112=true:=aS
theorem anc:b8 Tryz.prog 113=true:=aS
theorem ane:b8 Tryz.prog 114=true:=aS
theorem anf:b8 Tryz.prog 115=true:=aS
theorem ang:b8 Tryz.prog 116=true:=aS
theorem anh:b8 Tryz.prog 117=true:=aS
theorem ani:b8 Tryz.prog 118=true:=aS
theorem anj:b8 Tryz.prog 119=true:=aS
theorem ank:b8 Tryz.prog 120=true:=aS
theorem anl:b8 Tryz.prog 121=true:=aS
theorem PQ:b8 Tryz.prog 122=true:=aS
theorem anm:b8 Tryz.prog 123=true:=aS
theorem KI:b8 Tryz.prog 131=true:=aS
theorem ann:b8 Tryz.prog 132=true:=aS
theorem ano:b8 Tryz.prog 151=true:=aS
theorem ZF:b8 Tryz.prog 152=true:=aS
theorem anp:b8 Tryz.prog 153=true:=aS
theorem w':b8 Tryz.prog 154=true:=aS
theorem anq:b8 Tryz.prog 155=true:=aS
theorem ZG:b8 Tryz.prog 156=true:=aS
theorem anr:b8 Tryz.prog 157=true:=aS
theorem Gr:b8 Tryz.prog 158=true:=aS
theorem PR:b8 Tryz.prog 159=true:=aS
theorem ZH:b8 Tryz.prog 160=true:=aS
theorem ans:b8 Tryz.prog 161=true:=aS
theorem ZI:b8 Tryz.prog 162=true:=aS
theorem ant:b8 Tryz.prog 163=true:=aS
theorem Gs:b8 Tryz.prog 164=true:=aS
theorem anu:b8 Tryz.prog 165=true:=aS
theorem DX:b8 Tryz.prog 168=true:=aS
theorem ZJ:b8 Tryz.prog 169=true:=aS
theorem PS:b8 Tryz.prog 184=true:=aS
theorem anv:b8 Tryz.prog 185=true:=aS
theorem anw:b8 Tryz.prog 186=true:=aS
theorem ZK:b8 Tryz.prog 187=true:=aS
theorem ZL:b8 Tryz.prog 188=true:=aS
theorem anx:b8 Tryz.prog 189=true:=aS
theorem anz:b8 Tryz.prog 190=true:=aS
theorem Gt:b8 Tryz.prog 193=true:=aS
theorem PT:b8 Tryz.prog 200=true:=aS
theorem xa:b8 Tryz.prog 201=true:=aS
theorem anA:b8 Tryz.prog 202=true:=aS
theorem anB:b8 Tryz.prog 203=true:=aS
theorem anC:b8 Tryz.prog 204=true:=aS
theorem anD:b8 Tryz.prog 206=true:=aS
theorem ZM:b8 Tryz.prog 207=true:=aS
theorem anE:b8 Tryz.prog 211=true:=aS
theorem ZN:b8 Tryz.prog 212=true:=aS
theorem anF:b8 Tryz.prog 213=true:=aS
theorem PU:b8 Tryz.prog 215=true:=aS
theorem ZO:b8 Tryz.prog 220=true:=aS
theorem anG:b8 Tryz.prog 223=true:=aS
end Go.Proofs
namespace Go.Proofs
open Tryz
open Go.aG Go.ak
theorem ZP{w0:World}{F:Nat->Prop}{c4 di:Nat}{wid Gu:Int}{Gv:Bool}{oS X Y:Value}{ks:List Int}{life:Int}{K:List cV}(bf:(bh (R:=az) [aw c4 [U wid,U Gu,.bool Gv,oS,ptr di 0,X,Y] 95,aP aG.encI 3 1 oS ks,hT 164 123 5 di life K]).p F w0)(bs:∀b,F b->b<w0.heap.size)(XE:0<=life/\life<=1000000)(eU:o5 K)(k6:ks.Nodup)(n1:∀k∈ks,b6 k)(mQ:ks.length<=1000):
 bJ 46 #[ptr c4 0] w0 (an λaC ai=>aC=.tuple #[]/\Mod F w0 ai/\∃bz,(iW (R:=az) 3 95 164 123 5 176 172 c4 wid ks (⟨0,true,life+1,K,K,[]⟩)).p bz ai/\∀b,bz b->b<ai.heap.size/\(F b\/w0.heap.size<=b)):=by
 have dR:=au.hh (R:=az) bf (λb ab=>⟨bs b ab,id⟩) (λ_ h=>h.elim);have bw:=(dR.u 0 []).cv;refine bP func46 rfl ntmps46 rfl (.go 4 rfl (have f1:=bw.k 0;.a7 PF PC f1 ?_));obtain⟨h8,dz,dt,de⟩:=bw.eH 2;refine .ac (.aH am8 rfl (ajc (w0:=w0) aa dz (λb ab=>(dt b ab).2)) ?_);rintro _ ai ⟨rfl,av,fs,fm,eg⟩;have a6:=(de _ _ _ av fm eg).cv;clear de fm;refine .go 6 rfl (.ac (.aH am9 rfl (akp (w0:=ai)) ?_));rintro _ aZ ⟨dx,bz,rfl,aA,gz,gj⟩;have a1:au az F w0 aZ [aw c4 [U wid,U Gu,.bool Gv,oS,ptr di 0,X,Y] 95,aP aG.encI 3 1 oS ks,hT 164 123 5 di (life+1) K,j1 176 172 dx []]:=a6.new aA gz (λb ab=>⟨(gj b ab).2,(gj b ab).1⟩);refine .go 1 rfl (.z (.fieldAddr DU rfl) (have f2:=a1.k 0;.ac (.st fe f2 λbp aM aW=>?_)));have bd:=(a1.db 0 aM aW.xT).bU;refine .go 1 rfl (.z (.fieldAddr Bv rfl) (have f3:=bd.k 0;.ac (.st aK f3 λbX aY bQ=>?_)));have ba:=(bd.db 0 aY bQ.xT).bU;refine .go 1 rfl (.z (.fieldAddr Gm rfl) (have f4:=ba.k 0;.ac (.st vp f4 λcH bu cP=>?_)));have bm:=(ba.db 0 bu cP.xT).bU;refine .go 4 rfl (.ac (.WD (key:=fD) (val:=mj) λc8 aL b2 aF hc df=>have bC:=(bm.WE b2 aF df).cU;have bL:au az F w0 c8 [aw c4 [U wid,ad,.bool true,oS,ptr di 0,X,ptr dx 0] 95,aP aG.encI 3 1 oS ks,hT 164 123 5 di (life+1) K,j1 176 172 dx [],jq fD mj aL [],l0 [] []]:=bC.new (Mod.refl _ _) (F:=λ_=>False) (A:=l0 [] []) (c3.nil) (λ_ h=>h.elim);.go 1 rfl (.z (.fieldAddr Gl rfl) (have f5:=bL.k 0;.ac (.st Gi f5 λdA cC e5=>?_)))));have bq:=(bL.db 0 cC e5.xT).n6;refine .go 5 rfl (have f6:=bq.k 0;.a7 amj pG f6 ?_);obtain⟨g1,f7,cu,bt⟩:=bq.b' 1;refine .z (.ct underlying57 (f7.cj) rfl) (have b5:=(bq.dB [1,4,0,5,2,3]).n6;.ae 3 rfl (dU (I:=λm E W=>∃(i:Nat) (vs:List Value),E=[(0,ptr c4 0),(30,oS),(31,U (ks.length:Int)),(32,U (i:Int))]/\m=ks.length-i/\au az F w0 W [aP aG.encI 3 1 oS ks,jq fD mj aL (ll (ks.take i) vs K),aw c4 [U wid,ad,.bool true,oS,ptr di 0,.map (some aL),ptr dx 0] 95,l0 vs ((ks.take i).map (gn K)),hT 164 123 5 di (life+1) K,j1 176 172 dx []]/\(vs.length=i)/\(i<=ks.length)) ?_ ?_))
 . refine⟨_,_,⟨(0:Nat),([]:List Value),rfl,rfl,b5,dC,aa⟩,bj⟩
 . rintro _ _ eM ⟨i,vs,rfl,rfl,bO,Bz,na⟩ b1;refine .go 2 rfl (.bg (.lt rfl rfl) (λaJ=>?_) λaJ=>?_)
   . refine .ae 2 rfl ?_;obtain⟨g2,f8,dk,cD⟩:=bO.b' 0;obtain⟨ax,bx,e',a8,bT,fa,cI⟩:=aq.fu f8.cj underlying57 aK aG.gF i aU;refine .go 6 rfl (.z (.indexAddr rfl rfl bT) (.z (.dQ aK cI) (have Ow:=n1 _ (List.mem_of_getElem? a8);.go 6 rfl (have f9:=bO.k 2;.a7 PF PC f9 ?_))));obtain⟨qd,iU,g',hv⟩:=bO.eH 4;refine .go 1 rfl (.ac (.aH am_ rfl (ai6 (w0:=eM) (ax) Gw iU (λb ab=>(g' b ab).2) eU) ?_));rintro _ ff ⟨v1,rfl,⟨g3,b_,b7⟩,dg⟩;have ck:=(bO.fR dg b_ b7).n7;clear b7;obtain⟨g4,f10,gI,dK⟩:=ck.b' 6;refine .go 9 rfl (.ac (.aH am' rfl (akg (w0:=ff) (b:=(iN K ax)) (f10.cj.cz (Nat.zero_le _) f10.lt) (Yw eU _)) ?_));rintro _ fv ⟨FH,_,rfl,⟨Ot,x_,pI,Dn,Dp⟩,rfl,dn⟩;obtain⟨DY,rfl,asn⟩:=pI.Pp;have da:au az F w0 fv [aP aG.encI 3 1 oS ks,jq fD mj aL (ll (ks.take i) vs K),aw c4 [U wid,ad,.bool true,oS,ptr di 0,.map (some aL),ptr dx 0] 95,l0 vs ((ks.take i).map (gn K)),hT 164 123 5 di (life+1) K,j1 176 172 dx [],aP eB 5 1 v1 (iN K ax),wu (.pointer DY) (gn K ax)]:=ck.MB dn pI Dn Dp;refine .go 9 rfl (have f11:=da.k 2;.a7 Gl Gi f11 (.go 3 rfl (.z (.build (vs:=#[(0,(.pointer DY)),(1,(U (kL K ax):Value))]) (v:=.agg #[(.pointer DY),U (kL K ax)]) rfl (λ_=>by kernel_rfl)) (have f12:=da.mp (i:=1) rfl;.ac (.ahI (ax:Int) (((.pointer DY),kL K ax):Value×Int) (ahF underlying3) underlying92 rfl rfl rfl f12 λht dS ka gA=>?_)))));rw[ale Bz a8 k6] at gA;have dD:=(da.C0 (i:=1) rfl dS gA).n8;have ek:=(dD.aQ [0,1,2,4,5,6] 3 7).n7;have fh:=(ek.ty (l0 (vs++[(.pointer DY)]) ((ks.take (i+1)).map (gn K))) 6 rfl (λei bR=>(by rw[List.take_add_one,a8,List.map_append];exact alw bR))).n7;exact .go 3 rfl (.z (.cg ((i+1:Nat):Int) rfl rfl aa) (have eE:=(fh.dB [0,1,2,6,3,4]).n6;.ae 2 rfl ((b1 _ _ _ ⟨(i+1:Nat),(vs++[(.pointer DY)]:List Value),rfl,rfl,eE,ap,e_⟩ aa).sub bj)))
   exact .ae 4 rfl (kp func46 rfl (have wP:ks.take i=ks:=List.take_of_length_le aa;have bS:=(bO.ty (l0 vs (ks.map (gn K))) 3 rfl (λei bR=>(by rw[wP] at bR;exact bR))).n6;have ck:=(bS.ty (jq fD mj aL (ll ks vs K)) 1 rfl (λei bR=>(by rw[wP] at bR;exact bR))).n6;have cJ:=(ck.dd [] 2 0 4 1 3 5).cf;have da:=(cJ.mE (s:=⟨0,true,life+1,K,K,[]⟩) 0 rfl).cf;da.rt 0 rfl rfl))
theorem zN{w0:World}{c4:Nat}{fp c1 hG DM w6 w7:Value}{up:Bool}(ab:ds w0 c4 [fp,c1,.bool up,hG,DM,w6,w7] 95):
 bJ 32 #[ptr c4 0] w0 (an λaC ai=>aC=.bool up/\Ext w0 ai):=by
 have cT:=au.f_ w0;exact bP func32 rfl ntmps32 rfl (.go 7 rfl (.z (.HI underlying27 rfl rfl) (.go 3 rfl (.z (.fieldAddr DU rfl) (have bT:=ab.row.sub 2 1 dm;.z (.dQ fe bT) (.ae 3 rfl (n5 func32 ⟨rfl,cT.mod⟩)))))))
theorem PV{w0:World}{c4 di:Nat}{fp c1 c2 hG w6 w7:Value}(ab:ds w0 c4 [fp,c1,c2,hG,ptr di 0,w6,w7] 95):
 bJ 26 #[ptr c4 0] w0 (an λaC ai=>aC=ptr di 0/\Ext w0 ai):=by
 have cT:=au.f_ w0;exact bP func26 rfl ntmps26 rfl (.go 8 rfl (.z (.l5 underlying27 rfl rfl) (.go 7 rfl (.z (.fieldAddr PF rfl) (have bT:=ab.row.sub 4 1 dm;.z (.dQ PC bT) (.ae 2 rfl (n5 func26 ⟨rfl,cT.mod⟩)))))))
theorem KJ{w0:World}{F:Nat->Prop}{c4 di:Nat}{fp c1 c2 hG w6 w7:Value}{life:Int}{K:List cV}(ab:ds w0 c4 [fp,c1,c2,hG,ptr di 0,w6,w7] 95)(hd:(hT (R:=az) 164 123 5 di life K).p F w0):
 bJ 21 #[ptr c4 0] w0 (an λaC ai=>aC=U life/\Ext w0 ai):=by
 have cT:=au.f_ w0;refine bP func21 rfl ntmps21 rfl (.go 7 rfl (.ac (.aH PM rfl (PV (w0:=w0) (ab.ext cT.mod)) ?_)));rintro _ ai ⟨rfl,av⟩;have bw:=cT.ext av;refine .ac (.aH amS rfl (ai8 (w0:=ai) ((hT (R:=az) 164 123 5 di life K).keep hd bw.mod (λ_ _ h=>h) (λ_ h=>h.elim))) ?_);rintro _ aZ ⟨rfl,aA⟩;have a6:=bw.ext aA;exact .ae 2 rfl (n5 func21 ⟨rfl,a6.mod⟩)
theorem anH{w0:World}{c4:Nat}{fp hG DM w6 w7:Value}{ep:Int}{up:Bool}(ab:ds w0 c4 [fp,U ep,.bool up,hG,DM,w6,w7] 95):
 bJ 20 #[ptr c4 0] w0 (an λaC ai=>aC=U (if up=true then ep else 0)/\Ext w0 ai):=by
 have cT:=au.f_ w0;refine bP func20 rfl ntmps20 rfl (.go 8 rfl (.ac (.aH zM rfl (zN (w0:=w0) (ab.ext cT.mod)) ?_)));rintro _ ai ⟨rfl,av⟩;have bw:=cT.ext av;cases up
 case true =>
  exact .z (.not rfl) (.go 7 rfl (.z (.fieldAddr Bv rfl) (have f1:=ab.row.keep bw.mod (λh=>h);have bT:=f1.sub 1 1 dm;.z (.dQ aK bT) (.ae 2 rfl (n5 func20 ⟨rfl,bw.mod⟩)))))
 exact .z (.not rfl) (.ae 6 rfl (n5 func20 ⟨rfl,bw.mod⟩))
theorem anI{w0:World}{F:Nat->Prop}{c4:Nat}{wid:Int}{ks:List Int}{ep life:Int}{up:Bool}{K B:List cV}{q:List bb}(bf:(iW (R:=az) 3 95 164 123 5 176 172 c4 wid ks (⟨ep,up,life,K,B,q⟩)).p F w0)(bs:∀b,F b->b<w0.heap.size):
 bJ 18 #[ptr c4 0] w0 (an λaC ai=>aC=U (if up=true then 0 else 10)/\Mod F w0 ai/\∃bz,(iW (R:=az) 3 95 164 123 5 176 172 c4 wid ks (⟨ep,false,life,K,B,q⟩)).p bz ai/\∀b,bz b->b<ai.heap.size/\(F b\/w0.heap.size<=b)):=by
 have dR:=au.hh (R:=az) bf (λb ab=>⟨bs b ab,id⟩) (λ_ h=>h.elim);obtain⟨⟨kd,du,gJ,j4,dx⟩,bw⟩:=dR.fB 0;change au az F w0 w0 [bh [aw c4 [U wid,U ep,.bool up,kd,ptr du 0,.map (some gJ),ptr dx 0] 95,aP aG.encI 3 1 kd ks,hT 164 123 5 du life K,jq fD mj gJ (ll ks j4 B),l0 j4 (ks.map (gn B)),j1 176 172 dx q]] at bw;have a6:=(bw.u 0 []).n6;refine bP func18 rfl ntmps18 rfl (.go 9 rfl (.z (.l5 underlying27 rfl rfl) (.go 7 rfl (have f1:=a6.k 0;.a7 DU fe f1 ?_))));cases up
 case true =>
  refine .z (.not rfl) (.go 9 rfl (.z (.fieldAddr DU rfl) (.ac (.st fe f1 λai av aW=>?_))));have bc:=(a6.db 0 av aW.xT).n6;exact .ae 5 rfl (aN func18 rfl rfl (have a1:=(bc.dd [] 0 1 2 3 4 5).cf;have bd:=(a1.mE (s:=⟨ep,false,life,K,B,q⟩) 0 rfl).cf;bd.rt 0 rfl rfl))
 exact .z (.not rfl) (.ae 7 rfl (aN func18 rfl rfl (have bc:=(a6.dd [] 0 1 2 3 4 5).cf;have a1:=(bc.mE (s:=⟨ep,false,life,K,B,q⟩) 0 rfl).cf;a1.rt 0 rfl rfl)))
theorem anJ{w0:World}{F:Nat->Prop}{c4:Nat}{wid:Int}{ks:List Int}{ep life:Int}{up:Bool}{K B:List cV}{q:List bb}{n:Nat}(bf:(iW (R:=az) 3 95 164 123 5 176 172 c4 wid ks (⟨ep,up,life,K,B,q⟩)).p F w0)(bs:∀b,F b->b<w0.heap.size)(k6:w4 ks)(bW:hN ks n (⟨ep,up,life,K,B,q⟩:dy))(aR:n<=1000000):
 bJ 19 #[ptr c4 0] w0 (an λaC ai=>aC=U (if up=true then 5 else 0)/\Mod F w0 ai/\∃bz,(iW (R:=az) 3 95 164 123 5 176 172 c4 wid ks (if up=true then⟨ep,up,life,K,B,q⟩ else DI ⟨ep,up,life,K,B,q⟩)).p bz ai/\∀b,bz b->b<ai.heap.size/\(F b\/w0.heap.size<=b)):=by
 have kU:=bW.mV;have iv:=bW.life;have k4:=bW.ep;dsimp only at kU iv k4;have dR:=au.hh (R:=az) bf (λb ab=>⟨bs b ab,id⟩) (λ_ h=>h.elim);obtain⟨⟨kd,du,gJ,j4,dx⟩,bw⟩:=dR.fB 0;change au az F w0 w0 [bh [aw c4 [U wid,U ep,.bool up,kd,ptr du 0,.map (some gJ),ptr dx 0] 95,aP aG.encI 3 1 kd ks,hT 164 123 5 du life K,jq fD mj gJ (ll ks j4 B),l0 j4 (ks.map (gn B)),j1 176 172 dx q]] at bw;have a6:=(bw.u 0 []).n6;refine bP func19 rfl ntmps19 rfl (.go 9 rfl (.z (.l5 underlying27 rfl rfl) (.go 7 rfl (have f1:=a6.k 0;.a7 DU fe f1 (.ae 2 rfl ?_)))));cases up
 case true =>
  exact .ae 5 rfl (aN func19 rfl rfl (have bc:=(a6.dd [] 0 1 2 3 4 5).cf;have a1:=(bc.mE (s:=⟨ep,true,life,K,B,q⟩) 0 rfl).cf;a1.rt 0 rfl rfl))
 have bc:=(a6.bx [3,4,5] 0 1 2).bU;obtain⟨h8,dz,dt,de⟩:=bc.eH 3;refine .go 6 rfl (.ac (.aH Zz rfl (ZP (w0:=w0) dz (λb ab=>(dt b ab).2) aa bW.K k6.vk k6.i64 k6.len) ?_));rintro _ ai ⟨rfl,av,fs,fm,eg⟩;have a1:=(de _ _ _ av fm eg).bU;clear dz de fm eg;exact .ae 5 rfl (aN func19 rfl rfl (a1.rt 3 rfl rfl))
theorem anK{w0:World}{F:Nat->Prop}{c4:Nat}{wid:Int}{ks:List Int}{ep life:Int}{up:Bool}{K B:List cV}{q:List bb}{n:Nat}(k:Int)(bf:(iW (R:=az) 3 95 164 123 5 176 172 c4 wid ks (⟨ep,up,life,K,B,q⟩)).p F w0)(bs:∀b,F b->b<w0.heap.size)(k6:w4 ks)(bW:hN ks n (⟨ep,up,life,K,B,q⟩:dy))(aR:n<=1000000)(hk:b6 k):
 bJ 28 #[ptr c4 0,U k] w0 (an λaC ai=>∃v,aC=.tuple #[v,U (lZ ks ⟨ep,up,life,K,B,q⟩ k).2]/\(∃g,Acc cx 9 1 ai g v (lZ ks ⟨ep,up,life,K,B,q⟩ k).1/\(g=0\/w0.heap.size<g))/\Ext w0 ai):=by
 have cT:=au.f_ w0;obtain⟨oS,di,iQ,vs,dc,ab,⟨Fd,hd,sa⟩,tn,⟨anL,uy,nT⟩,anM,dM,nu⟩:=DN bf;have Bz:vs.length=ks.length:=(Pr uy).trans (List.length_map ..);dsimp only at ab hd tn uy dM;refine bP func28 rfl ntmps28 rfl (.go 10 rfl (.z (.l5 underlying27 rfl rfl) ?_));refine .go 7 rfl (.z (.fieldAddr DU rfl) (have bT:=ab.row.sub 2 1 dm;.z (.dQ fe bT) ?_));cases up
 case true =>
  refine .z (.not rfl) (.go 9 rfl (.z (.fieldAddr Gl rfl) ?_));have cY:=ab.row.sub 5 1 dm;refine .z (.dQ Gi cY) (.go 1 rfl ?_);rcases Pa (B:=B) Bz k with ⟨KK,pd⟩|⟨j,oC,BA,BB,pd⟩
  . skip
    refine .z (.TI (key:=fD) (val:=mj) (u3 underlying3) underlying92 zeroValue101 rfl rfl (λ_ e=>e▸(tn.keep cT.mod (λh=>h)).o) pd) ?_;refine .go 3 rfl (.ac (.alloc Kx λai aL av aF cq aW=>have a6:=(cT.cS av aF aW).cf;have f1:=a6.k 0;.ac (.store Kx rfl rfl rfl rfl rfl f1 dm λaZ aA ec bQ=>?_)));have bc:=(a6.db 0 aA bQ.c2).cf;refine .go 7 rfl (.z (.not rfl) (.ae 8 rfl ?_));exact cM func28 rfl rfl rfl (have qR:lZ ks ⟨ep,_,life,K,B,q⟩ k=([],4):=Pe KK;an.mk ⟨_,(by rw[qR]),⟨0,Acc.cast Acc.nil (by rw[qR]),.inl rfl⟩,bc.mod⟩)
  . skip
    have BC:(ks.map (gn B))[j]?=some (gn B k):=(by rw[List.getElem?_map,BA];rfl);obtain⟨_,_,Gx,_⟩:=YM uy BB BC;obtain⟨ZQ,rfl,_⟩:=Gx.Pp;have KL:=List.mem_of_getElem? BA;refine .z (.TH (key:=fD) (val:=mj) (u3 underlying3) underlying92 zeroValue101 rfl rfl (λ_ e=>e▸(tn.keep cT.mod (λh=>h)).o) pd) ?_;refine .go 3 rfl (.ac (.alloc Kx λai aL av aF cq aW=>have a6:=(cT.cS av aF aW).cf;have f1:=a6.k 0;.ac (.st Kx f1 λaZ aA bQ=>?_)));have bc:=(a6.db 0 aA bQ.c2).cf;refine .go 7 rfl (.z (.not rfl) (.go 5 rfl ?_));have f2:=bc.k 0;refine .a7 Zo Zd f2 (.lP (.ne rfl rfl) (λaJ=>?_) λaJ=>?_)
    . refine .ae 4 rfl (eT (λi=>false) 4 (λao=>Mod (b3 0) aZ ao) mixed λbp aM=>have a1:=bc.ext aM;have jC:Mod (b3 0) aZ bp:=Mod.gb aM;⟨jC,?_⟩);refine .z rfl (.fieldAddr Zo rfl) (.z rfl (.ca Zd rfl (λ_ al=>(f2.cell 1 _ rfl).bF al (Nat.succ_ne_zero _))) (.gd 2 rfl ?_));exact .nil (cM func28 rfl rfl rfl (have qR:lZ ks ⟨ep,_,life,K,B,q⟩ k=([],(kL B k)):=Pf KL bk;an.mk ⟨_,(by rw[qR]),⟨0,Acc.cast Acc.nil (by rw[qR]),.inl rfl⟩,a1.mod⟩))
    refine .go 7 rfl (.a7 amk re f2 ?_);obtain⟨_,_,pI,PW⟩:=YM ((l0 (R:=az) vs (ks.map (gn B))).keep uy bc.mod (λ_ _ h=>h) (λ_ h=>h.elim)) BB BC;refine .ac (.aH amT rfl (akn (w0:=aZ) pI PW (YB (Kp.2 bk)) (Nat.le_trans (bW.c4 k) b0)) ?_);rintro v1 bp ⟨⟨iq,b_,b7⟩,aM⟩;have bd:=(bc.fR aM b_ b7).bM;clear b7;refine .ae 3 rfl (cM func28 rfl rfl rfl ?_);have qR:lZ ks ⟨ep,_,life,K,B,q⟩ k=(ho B k,0):=Kq KL bk;obtain⟨eo,vt,vu⟩:=bd.ta (i:=1) rfl;exact an.mk ⟨_,(by rw[qR]),⟨eo,Acc.cast vt (by rw[qR]),vu⟩,bd.mod⟩
 refine .z (.not rfl) (.ae 8 rfl (cM func28 rfl rfl rfl ?_));have qR:lZ ks ⟨ep,_,life,K,B,q⟩ k=([],10):=alm;exact an.mk ⟨_,(by rw[qR]),⟨0,Acc.cast Acc.nil (by rw[qR]),.inl rfl⟩,cT.mod⟩
theorem anN{w0:World}{F:Nat->Prop}{c4:Nat}{wid:Int}{ks:List Int}{ep life:Int}{up:Bool}{K B:List cV}{q:List bb}{n:Nat}(bf:(iW (R:=az) 3 95 164 123 5 176 172 c4 wid ks (⟨ep,up,life,K,B,q⟩)).p F w0)(bs:∀b,F b->b<w0.heap.size)(k6:w4 ks)(bW:hN ks n (⟨ep,up,life,K,B,q⟩:dy))(aR:n<=100000):
 bJ 15 #[ptr c4 0] w0 (an λaC ai=>(∃g,Acc ej 35 11 ai g aC (rq ⟨ep,up,life,K,B,q⟩)/\(g=0\/w0.heap.size<g))/\Ext w0 ai):=by
 have cT:=au.f_ w0;obtain⟨oS,di,iQ,vs,dc,ab,⟨Fd,hd,sa⟩,tn,⟨anL,uy,nT⟩,anM,dM,nu⟩:=DN bf;dsimp only at ab hd tn uy dM;refine bP func15 rfl ntmps15 rfl (.go 8 rfl (.ac (.aH zM rfl (zN (w0:=w0) (ab.ext cT.mod)) ?_)));rintro _ ai ⟨rfl,av⟩;have bw:=cT.ext av;cases up
 case true =>
  refine .z (.not rfl) (.go 7 rfl (.z (.fieldAddr Gm rfl) (have f1:=ab.row.keep bw.mod (λh=>h);have bT:=f1.sub 6 1 dm;.z (.dQ vp bT) (.ac (.aH amQ rfl (akt (w0:=ai) ((j1 (R:=az) 176 172 dc q).keep dM bw.mod (λ_ _ h=>h) (λ_ h=>h.elim)) (λb ab=>Nat.lt_of_lt_of_le (bs b (nu b ab)) bw.mod.size) (Nat.le_trans bW.mV aR)) ?_)))));rintro v1 aZ ⟨⟨iq,b_,b7⟩,aA⟩;have bc:=(bw.fR aA b_ b7).cf;clear b7;refine .ae 2 rfl (aN func15 rfl rfl ?_);obtain⟨eo,vt,vu⟩:=bc.ta (i:=0) rfl;exact an.mk ⟨⟨eo,vt,vu⟩,bc.mod⟩
 exact .z (.not rfl) (.ae 6 rfl (n5 func15 ⟨⟨0,Acc.nil,.inl rfl⟩,bw.mod⟩))
end Go.Proofs
namespace Go.Proofs
open Tryz
open Go.aG Go.ak
theorem anO{w0:World}{m:bb}(hm:m.Ok)(F1:m.text.length<=1000000)(wZ:m.after.word.length<=1000000):
 bJ 41 #[.iface 35 (.agg #[U m.slot,U m.query,U m.shard,U m.seq,U m.ga,aD m.text,U m.k,U m.batch,.bool m.first,U m.after.cp,aD m.after.word])] w0 (an λaC ai=>(∃cr:Bool,cr=nN m/\aC=.bool cr)/\Ext w0 ai):=by
 have cT:=au.f_ w0;refine bP func41 rfl ntmps41 rfl ?_;refine .go 12 rfl ?_;refine .z (.iA qQ rfl b0 zeroValue46) ?_;refine .go 6 rfl ?_;refine .z (.iA qP rfl b0 zeroValue38) ?_;refine .go 6 rfl ?_;refine .z (.pD pW rfl) ?_;refine .go 6 rfl ?_;refine .ac (.alloc ed λai aL av aF cq aW=>?_);have a6:=(cT.cS av aF aW).cf;have f1:=a6.k 0;refine .ac (.st ed f1 λaZ aA bQ=>?_);have bc:=(a6.o0 (cs':=(ej m)) (i:=0) rfl aA bQ).cf;have f2:=bc.k 0;refine .go 3 rfl ?_;refine .z (.cB ed rfl (λ_ e=>e▸f2.row) rfl) ?_;refine .ac (.aH am6 rfl (akL (w0:=aZ) (m:=m)  (by first|assumption|assumption) aU aU) ?_);rintro _ bp ⟨⟨aQ,aJ,rfl⟩,aM⟩;have a1:=bc.ext aM;refine .ae 2 rfl ?_;exact aN func41 rfl rfl (an.mk ⟨⟨_,bk,rfl⟩,a1.mod⟩)
theorem anP{w0:World}{F:Nat->Prop}{c4:Nat}{wid:Int}{ks:List Int}{ep life:Int}{up:Bool}{K B:List cV}{q:List bb}{n:Nat}{eo eX:Int}(bf:(iW (R:=az) 3 95 164 123 5 176 172 c4 wid ks (⟨ep,up,life,K,B,q⟩)).p F w0)(bs:∀b,F b->b<w0.heap.size)(k6:w4 ks)(bW:hN ks n (⟨ep,up,life,K,B,q⟩:dy))(aR:n<=100000)(hm:b6 eo/\b6 eX):
 bJ 14 #[ptr c4 0,.iface 46 (.agg #[U eo,U eX])] w0 (an λaC ai=>aC=.tuple #[]/\Mod F w0 ai/\∃bz,(iW (R:=az) 3 95 164 123 5 176 172 c4 wid ks (kn wid ks ⟨ep,up,life,K,B,q⟩ (.hE eo eX))).p bz ai/\∀b,bz b->b<ai.heap.size/\(F b\/w0.heap.size<=b)):=by
 have kU:=bW.mV;have iv:=bW.life;have k4:=bW.ep;dsimp only at kU iv k4;have dR:=au.hh (R:=az) bf (λb ab=>⟨bs b ab,id⟩) (λ_ h=>h.elim);obtain⟨⟨kd,du,gJ,j4,dx⟩,bw⟩:=dR.fB 0;change au az F w0 w0 [bh [aw c4 [U wid,U ep,.bool up,kd,ptr du 0,.map (some gJ),ptr dx 0] 95,aP aG.encI 3 1 kd ks,hT 164 123 5 du life K,jq fD mj gJ (ll ks j4 B),l0 j4 (ks.map (gn B)),j1 176 172 dx q]] at bw;have a6:=(bw.u 0 []).n6;refine bP func14 rfl ntmps14 rfl (have f1:=a6.k 0;.go 4 rfl (.ac (.aH zM rfl (zN (w0:=w0) f1) ?_)));rintro _ ai ⟨rfl,av⟩;have bc:=a6.ext av;cases up
 case true =>
  refine .z (.not rfl) (.go 7 rfl (.z (.iA qP rfl b0 zeroValue38) (.go 3 rfl (.ac (.alloc nY λaZ aL aA aF cq aW=>have bd:=(bc.cS aA aF aW).n7;have f2:=bd.k 6;.ac (.st nY f2 λbp aM bQ=>?_))))));have ba:=(bd.db 6 aM bQ.hG).n7;refine .ae 3 rfl (eT (λi=>Nat.beq i 14) 26 (λao=>Mod (b3 0) bp ao) mixed λbX aY=>have bm:=ba.ext aY;have jt:Mod (b3 0) bp bX:=Mod.gb aY;⟨jt,?_⟩);refine .gd 26 rfl (.nil (.go 6 rfl (.z (.iA pW rfl b0 zeroValue35) (.go 3 rfl (.ac (.alloc ed λcH aQ bu aJ fF cP=>have bC:=(bm.cS bu aJ cP).n8;have f3:=bC.k 7;.ac (.st ed f3 λc8 b2 df=>?_)))))));have bL:=(bC.db 7 b2 df.wF).n8;refine .ae 3 rfl (eT (λi=>Nat.beq i 4) 31 (λao=>Mod (b3 0) c8 ao) mixed λdA cC=>have bq:=bL.ext cC;have lg:Mod (b3 0) c8 dA:=Mod.gb cC;⟨lg,?_⟩);refine .gd 31 rfl (.nil (.go 5 rfl (.z (.iA qp rfl b0 zeroValue104) (.go 3 rfl (.ac (.alloc kc λeM bx dg aX g_ e5=>have b5:=(bq.cS dg aX e5).ic;have f4:=b5.k 8;.ac (.st kc f4 λff dn gA=>?_)))))));have bS:=(b5.db 8 dn gA.c2).ic;refine .ae 8 rfl (kp func14 rfl ?_);have ck:=(bS.dd [6,7,8] 0 1 2 3 4 5).bU;have cJ:=(ck.mE (s:=⟨ep,true,life,K,B,q⟩) 3 rfl).bU;rw[YJ];exact cJ.rt 3 rfl rfl
 refine .z (.not rfl) (.ae 2 rfl (tD func14 rfl ?_));have a1:=(bc.dd [] 0 1 2 3 4 5).cf;have bd:=(a1.mE (s:=⟨ep,false,life,K,B,q⟩) 0 rfl).cf;rw[zA];exact bd.rt 0 rfl rfl
theorem anQ{w0:World}{F:Nat->Prop}{c4:Nat}{wid:Int}{ks:List Int}{ep life:Int}{up:Bool}{K B:List cV}{q:List bb}{n:Nat}{eo eX:Int}(bf:(iW (R:=az) 3 95 164 123 5 176 172 c4 wid ks (⟨ep,up,life,K,B,q⟩)).p F w0)(bs:∀b,F b->b<w0.heap.size)(k6:w4 ks)(bW:hN ks n (⟨ep,up,life,K,B,q⟩:dy))(aR:n<=100000)(hm:b6 eo/\b6 eX):
 bJ 14 #[ptr c4 0,.iface 104 (.agg #[U eo,U eX])] w0 (an λaC ai=>aC=.tuple #[]/\Mod F w0 ai/\∃bz,(iW (R:=az) 3 95 164 123 5 176 172 c4 wid ks (kn wid ks ⟨ep,up,life,K,B,q⟩ (.stop eo eX))).p bz ai/\∀b,bz b->b<ai.heap.size/\(F b\/w0.heap.size<=b)):=by
 have kU:=bW.mV;have iv:=bW.life;have k4:=bW.ep;dsimp only at kU iv k4;obtain⟨wZ,BD⟩:=hm;have dR:=au.hh (R:=az) bf (λb ab=>⟨bs b ab,id⟩) (λ_ h=>h.elim);obtain⟨⟨kd,du,gJ,j4,dx⟩,bw⟩:=dR.fB 0;change au az F w0 w0 [bh [aw c4 [U wid,U ep,.bool up,kd,ptr du 0,.map (some gJ),ptr dx 0] 95,aP aG.encI 3 1 kd ks,hT 164 123 5 du life K,jq fD mj gJ (ll ks j4 B),l0 j4 (ks.map (gn B)),j1 176 172 dx q]] at bw;have a6:=(bw.u 0 []).n6;refine bP func14 rfl ntmps14 rfl (have f1:=a6.k 0;.go 4 rfl (.ac (.aH zM rfl (zN (w0:=w0) f1) ?_)));rintro _ ai ⟨rfl,av⟩;have bc:=a6.ext av;cases up
 case true =>
  refine .z (.not rfl) (.go 7 rfl (.z (.iA qP rfl b0 zeroValue38) (.go 3 rfl (.ac (.alloc nY λaZ aL aA aF cq aW=>have bd:=(bc.cS aA aF aW).n7;have f2:=bd.k 6;.ac (.st nY f2 λbp aM bQ=>?_))))));have ba:=(bd.db 6 aM bQ.hG).n7;refine .ae 3 rfl (eT (λi=>Nat.beq i 14) 26 (λao=>Mod (b3 0) bp ao) mixed λbX aY=>have bm:=ba.ext aY;have jt:Mod (b3 0) bp bX:=Mod.gb aY;⟨jt,?_⟩);refine .gd 26 rfl (.nil (.go 6 rfl (.z (.iA pW rfl b0 zeroValue35) (.go 3 rfl (.ac (.alloc ed λcH aQ bu aJ fF cP=>have bC:=(bm.cS bu aJ cP).n8;have f3:=bC.k 7;.ac (.st ed f3 λc8 b2 df=>?_)))))));have bL:=(bC.db 7 b2 df.wF).n8;refine .ae 3 rfl (eT (λi=>Nat.beq i 4) 31 (λao=>Mod (b3 0) c8 ao) mixed λdA cC=>have bq:=bL.ext cC;have lg:Mod (b3 0) c8 dA:=Mod.gb cC;⟨lg,?_⟩);refine .gd 31 rfl (.nil (.go 5 rfl (.z (.pD qp rfl) (.go 3 rfl (.ac (.alloc kc λeM bx dg aX g_ e5=>have b5:=(bq.cS dg aX e5).ic;have f4:=b5.k 8;.ac (.st kc f4 λff dn gA=>?_)))))));have bS:=(b5.db 8 dn gA.c2).ic;refine .ae 7 rfl (eT (λi=>Nat.beq i 8) 9 (λao=>ds ao c4 [U wid,U ep,.bool true,kd,ptr du 0,.map (some gJ),ptr dx 0] 95/\ds ao bx [U eo,U eX] 104) mixed λfv dS=>have ck:=bS.ext dS;have f5:=ck.k 0;have f6:=ck.k 8;⟨⟨f5,f6⟩,?_⟩);refine .gd 2 rfl (.z rfl (.fieldAddr Gm rfl) (.z rfl (.ca vp rfl (λ_ al=>(al.1.cell 6 _ rfl))) (.z rfl (.fieldAddr Zp rfl) (.z rfl (.ca aK rfl (λ_ al=>(al.2.cell 0 _ rfl))) (.z rfl (.fieldAddr Zq rfl) (.z rfl (.ca aK rfl (λ_ al=>(al.2.cell 1 _ rfl))) ?_))))));obtain⟨h8,dz,dt,de⟩:=ck.eH 5;refine .ac rfl (.aH amP rfl (akI (w0:=fv) eo eX dz (λb ab=>(dt b ab).2) aa) ?_);rintro _ ht ⟨rfl,eW,fs,fm,eg⟩;have cJ:=(de _ _ _ eW fm eg).ic;clear de fm;have f9:=cJ.k 0;have f10:=cJ.k 8;refine⟨.inr ⟨f9,f10⟩,.nil (kp func14 rfl ?_)⟩;have da:=(cJ.dd [6,7,8] 0 1 2 3 4 5).bU;have dD:=(da.mE (s:=⟨ep,true,life,K,B,(la q eo eX)⟩) 3 rfl).bU;rw[YI];exact dD.rt 3 rfl rfl
 refine .z (.not rfl) (.ae 2 rfl (tD func14 rfl ?_));have a1:=(bc.dd [] 0 1 2 3 4 5).cf;have bd:=(a1.mE (s:=⟨ep,false,life,K,B,q⟩) 0 rfl).cf;rw[zA];exact bd.rt 0 rfl rfl
theorem PX{p:Prop}(h:p:=by first|exact YF bk|exact YG bk|exact YH bk):p:=h
theorem PY{p:Prop}(h:p:=by assumption):p:=h
theorem ZR{w0:World}{F:Nat->Prop}{c4:Nat}{wid:Int}{ks:List Int}{ep life:Int}{up:Bool}{K B:List cV}{q:List bb}{n:Nat}{eo eX gc:Int}(bf:(iW (R:=az) 3 95 164 123 5 176 172 c4 wid ks (⟨ep,up,life,K,B,q⟩)).p F w0)(bs:∀b,F b->b<w0.heap.size)(k6:w4 ks)(bW:hN ks n (⟨ep,up,life,K,B,q⟩:dy))(aR:n<=100000)(hm:b6 eo/\b6 eX/\b6 gc):
 bJ 14 #[ptr c4 0,.iface 38 (.agg #[U eo,U eX,U gc])] w0 (an λaC ai=>aC=.tuple #[]/\Mod F w0 ai/\∃bz,(iW (R:=az) 3 95 164 123 5 176 172 c4 wid ks (kn wid ks ⟨ep,up,life,K,B,q⟩ (.lY eo eX gc))).p bz ai/\∀b,bz b->b<ai.heap.size/\(F b\/w0.heap.size<=b)):=by
 have kU:=bW.mV;have iv:=bW.life;have k4:=bW.ep;dsimp only at kU iv k4;obtain⟨wZ,BD,ZS⟩:=hm;have dR:=au.hh (R:=az) bf (λb ab=>⟨bs b ab,id⟩) (λ_ h=>h.elim);obtain⟨⟨kd,du,gJ,j4,dx⟩,bw⟩:=dR.fB 0;change au az F w0 w0 [bh [aw c4 [U wid,U ep,.bool up,kd,ptr du 0,.map (some gJ),ptr dx 0] 95,aP aG.encI 3 1 kd ks,hT 164 123 5 du life K,jq fD mj gJ (ll ks j4 B),l0 j4 (ks.map (gn B)),j1 176 172 dx q]] at bw;have a6:=(bw.u 0 []).n6;refine bP func14 rfl ntmps14 rfl ?_;have f1:=a6.k 0;refine .go 4 rfl ?_;refine .ac (.aH zM rfl (zN (w0:=w0) f1) ?_);rintro _ ai ⟨rfl,av⟩;have bc:=a6.ext av;cases up
 case true =>
  refine .z (.not rfl) ?_;refine .go 7 rfl ?_;refine .z (.pD qP rfl) ?_;refine .go 3 rfl ?_;refine .ac (.alloc nY λaZ aL aA aF cq aW=>?_);have bd:=(bc.cS aA aF aW).n7;have f2:=bd.k 6;refine .ac (.st nY f2 λbp aM bQ=>?_);have ba:=(bd.db 6 aM bQ.hG).n7;refine .ae 3 rfl ?_;refine eT (λi=>Nat.beq i 14) 26 (λao=>Mod (b3 0) bp ao) mixed λbX aY=>?_
  have bm:=ba.ext aY;have jt:Mod (b3 0) bp bX:=Mod.gb aY;refine⟨jt,?_⟩;refine .gd 2 rfl ?_;refine .z rfl (.fieldAddr Ze rfl) ?_;have f3:=ba.k 6;refine .z rfl (.ca aK rfl (λ_ al=>(f3.cell 0 _ rfl).bF al (Nat.succ_ne_zero _))) ?_;refine .gd 2 rfl ?_;refine .z rfl (.fieldAddr KC rfl) ?_;have f4:=ba.k 0;refine .z rfl (.ca aK rfl (λ_ al=>(f4.cell 0 _ rfl).bF al (Nat.succ_ne_zero _))) ?_;refine .gk rfl (.eq rfl rfl) (λaJ=>?_) λaJ=>?_
  . refine .gd 2 rfl ?_;refine .z rfl (.fieldAddr Zf rfl) ?_;refine .z rfl (.ca aK rfl (λ_ al=>(f3.cell 1 _ rfl).bF al (Nat.succ_ne_zero _))) ?_;have f5:=bm.k 0;obtain⟨ZT,sa,ZU,ZV⟩:=bm.eH 2;refine .gd 1 rfl ?_;refine .ac rfl (.aH KE rfl (KJ (w0:=bX) f5 sa) ?_);rintro _ cH ⟨rfl,bu⟩;have bN:=bm.ext bu;have my:=jt.ext bu;refine⟨.inr my,?_⟩;refine .gk rfl (.eq rfl rfl) (λaX=>?_) λaX=>?_
    . refine .gd 2 rfl ?_;refine .z rfl (.fieldAddr Ky rfl) ?_;have f6:=ba.k 6;refine .z rfl (.ca aK rfl (λ_ al=>(f6.cell 2 _ rfl).bF al (Nat.succ_ne_zero _))) ?_;refine .gd 2 rfl ?_;refine .z rfl (.fieldAddr Bv rfl) ?_;have f7:=ba.k 0;refine .z rfl (.ca aK rfl (λ_ al=>(f7.cell 1 _ rfl).bF al (Nat.succ_ne_zero _))) ?_;refine .dY rfl (.gt rfl rfl) λbI br=>?_
      refine .gd 1 rfl ?_;refine .nil ?_;cases bI
      case true =>
       replace br:=y' br;refine .go 3 rfl ?_;have f8:=bN.k 6;refine .a7 Ky aK f8 ?_;refine .go 1 rfl ?_;refine .z (.fieldAddr Bv rfl) ?_;have f9:=bN.k 0;refine .ac (.store aK rfl rfl rfl rfl rfl f9 dm λc8 b2 fF cP=>?_);have bC:=(bN.db 0 b2 cP.xT).n7;refine .go 5 rfl ?_;refine .z (.iA pW rfl b0 zeroValue35) ?_;refine .go 3 rfl ?_;refine .ac (.alloc ed λdA cA cC cE hc df=>?_);have bq:=(bC.cS cC cE df).n8;have f10:=bq.k 7;refine .ac (.store ed rfl rfl rfl rfl rfl f10 dm λeM dg g_ e5=>?_);have bO:=(bq.db 7 dg e5.wF).n8;refine .ae 3 rfl ?_;refine eT (λi=>Nat.beq i 4) 31 (λao=>Mod (b3 0) eM ao) mixed λff dn=>?_
       have b5:=bO.ext dn;have JO:Mod (b3 0) eM ff:=Mod.gb dn;refine⟨JO,?_⟩;refine .gd 31 rfl ?_;refine .nil ?_;refine .go 5 rfl ?_;refine .z (.iA qp rfl b0 zeroValue104) ?_;refine .go 3 rfl ?_;refine .ac (.alloc kc λfv dd dS cw ka gA=>?_);have ck:=(b5.cS dS cw gA).ic;have f11:=ck.k 8;refine .ac (.st kc f11 λht eW pT=>?_);have cJ:=(ck.db 8 eW pT.c2).ic;refine .ae 8 rfl ?_;refine kp func14 rfl ?_;have da:=(cJ.dd [6,7,8] 0 1 2 3 4 5).bU;have dD:=(da.mE (s:=⟨gc,true,life,K,B,q⟩) 3 rfl).bU;rw[Pm (ep:=ep) (life:=life) (K:=K) (B:=B) (q:=q) (id:=wid) (a:=eo) (b:=eX) (c:=gc) (Pk PY PY PY)];exact dD.rt 3 rfl rfl
      replace br:=za br;refine .go 6 rfl ?_;refine .z (.iA pW rfl b0 zeroValue35) ?_;refine .go 3 rfl ?_;refine .ac (.alloc ed λc8 cA b2 cE fF cP=>?_);have bL:=(bN.cS b2 cE cP).n8;have f8:=bL.k 7;refine .ac (.store ed rfl rfl rfl rfl rfl f8 dm λdA cC hc df=>?_);have bq:=(bL.db 7 cC df.wF).n8;refine .ae 3 rfl ?_;refine eT (λi=>Nat.beq i 4) 31 (λao=>Mod (b3 0) dA ao) mixed λeM dg=>?_
      have bO:=bq.ext dg;have sI:Mod (b3 0) dA eM:=Mod.gb dg;refine⟨sI,?_⟩;refine .gd 31 rfl ?_;refine .nil ?_;refine .go 5 rfl ?_;refine .z (.iA qp rfl b0 zeroValue104) ?_;refine .go 3 rfl ?_;refine .ac (.alloc kc λff dd dn cw g_ e5=>?_);have bS:=(bO.cS dn cw e5).ic;have f9:=bS.k 8;refine .ac (.store kc rfl rfl rfl rfl rfl f9 dm λfv dS ka gA=>?_);have ck:=(bS.db 8 dS gA.c2).ic;refine .ae 8 rfl ?_;refine kp func14 rfl ?_;have cJ:=(ck.dd [6,7,8] 0 1 2 3 4 5).bU;have da:=(cJ.mE (s:=⟨ep,true,life,K,B,q⟩) 3 rfl).bU;rw[DJ (ep:=ep) (life:=life) (K:=K) (B:=B) (q:=q) (id:=wid) (a:=eo) (b:=eX) (c:=gc) PX];exact da.rt 3 rfl rfl
    refine .gd 10 rfl ?_;refine .nil ?_;refine .go 6 rfl ?_;refine .z (.iA pW rfl b0 zeroValue35) ?_;refine .go 3 rfl ?_;refine .ac (.alloc ed λc8 bI b2 br fF cP=>?_);have bL:=(bN.cS b2 br cP).n8;have f6:=bL.k 7;refine .ac (.store ed rfl rfl rfl rfl rfl f6 dm λdA cC hc df=>?_);have bq:=(bL.db 7 cC df.wF).n8;refine .ae 3 rfl ?_;refine eT (λi=>Nat.beq i 4) 31 (λao=>Mod (b3 0) dA ao) mixed λeM dg=>?_
    have bO:=bq.ext dg;have sI:Mod (b3 0) dA eM:=Mod.gb dg;refine⟨sI,?_⟩;refine .gd 31 rfl ?_;refine .nil ?_;refine .go 5 rfl ?_;refine .z (.iA qp rfl b0 zeroValue104) ?_;refine .go 3 rfl ?_;refine .ac (.alloc kc λff cA dn cE g_ e5=>?_);have bS:=(bO.cS dn cE e5).ic;have f7:=bS.k 8;refine .ac (.store kc rfl rfl rfl rfl rfl f7 dm λfv dS ka gA=>?_);have ck:=(bS.db 8 dS gA.c2).ic;refine .ae 8 rfl ?_;refine kp func14 rfl ?_;have cJ:=(ck.dd [6,7,8] 0 1 2 3 4 5).bU;have da:=(cJ.mE (s:=⟨ep,true,life,K,B,q⟩) 3 rfl).bU;rw[DJ (ep:=ep) (life:=life) (K:=K) (B:=B) (q:=q) (id:=wid) (a:=eo) (b:=eX) (c:=gc) PX];exact da.rt 3 rfl rfl
  refine .gd 17 rfl ?_;refine .nil ?_;refine .go 6 rfl ?_;refine .z (.iA pW rfl b0 zeroValue35) ?_;refine .go 3 rfl ?_;refine .ac (.alloc ed λcH bx bu aX fF cP=>?_);have bC:=(bm.cS bu aX cP).n8;have f5:=bC.k 7;refine .ac (.st ed f5 λc8 b2 df=>?_);have bL:=(bC.db 7 b2 df.wF).n8;refine .ae 3 rfl ?_;refine eT (λi=>Nat.beq i 4) 31 (λao=>Mod (b3 0) c8 ao) mixed λdA cC=>?_
  have bq:=bL.ext cC;have lg:Mod (b3 0) c8 dA:=Mod.gb cC;refine⟨lg,?_⟩;refine .gd 31 rfl ?_;refine .nil ?_;refine .go 5 rfl ?_;refine .z (.iA qp rfl b0 zeroValue104) ?_;refine .go 3 rfl ?_;refine .ac (.alloc kc λeM bI dg br g_ e5=>?_);have b5:=(bq.cS dg br e5).ic;have f6:=b5.k 8;refine .ac (.st kc f6 λff dn gA=>?_);have bS:=(b5.db 8 dn gA.c2).ic;refine .ae 8 rfl ?_;refine kp func14 rfl ?_;have ck:=(bS.dd [6,7,8] 0 1 2 3 4 5).bU;have cJ:=(ck.mE (s:=⟨ep,true,life,K,B,q⟩) 3 rfl).bU;rw[DJ (ep:=ep) (life:=life) (K:=K) (B:=B) (q:=q) (id:=wid) (a:=eo) (b:=eX) (c:=gc) PX];exact cJ.rt 3 rfl rfl
 refine .z (.not rfl) ?_;refine .ae 2 rfl ?_;refine tD func14 rfl ?_;have a1:=(bc.dd [] 0 1 2 3 4 5).cf;have bd:=(a1.mE (s:=⟨ep,false,life,K,B,q⟩) 0 rfl).cf;rw[zA];exact bd.rt 0 rfl rfl
theorem Gy{p:Prop}(h:p:=by first|exact YC bk|exact YD bk|exact YE bk|exact Ph (.inl bk)|exact Ph (.inr bk)):p:=h
theorem Gz{p:Prop}(h:p:=by assumption):p:=h
theorem ZW{w0:World}{F:Nat->Prop}{c4:Nat}{wid:Int}{ks:List Int}{ep life:Int}{up:Bool}{K B:List cV}{q:List bb}{n:Nat}{a:bb}(bf:(iW (R:=az) 3 95 164 123 5 176 172 c4 wid ks (⟨ep,up,life,K,B,q⟩)).p F w0)(bs:∀b,F b->b<w0.heap.size)(k6:w4 ks)(bW:hN ks n (⟨ep,up,life,K,B,q⟩:dy))(aR:n<=100000)(hm:a.Ok/\a.text.length<=1000/\a.after.word.length<=1000):
 bJ 14 #[ptr c4 0,.iface 35 (.agg #[U a.slot,U a.query,U a.shard,U a.seq,U a.ga,aD a.text,U a.k,U a.batch,.bool a.first,U a.after.cp,aD a.after.word])] w0 (an λaC ai=>aC=.tuple #[]/\Mod F w0 ai/\∃bz,(iW (R:=az) 3 95 164 123 5 176 172 c4 wid ks (kn wid ks ⟨ep,up,life,K,B,q⟩ (.ask a))).p bz ai/\∀b,bz b->b<ai.heap.size/\(F b\/w0.heap.size<=b)):=by
 have kU:=bW.mV;have iv:=bW.life;have k4:=bW.ep;dsimp only at kU iv k4;obtain⟨ZX,F1,zO⟩:=hm;have dR:=au.hh (R:=az) bf (λb ab=>⟨bs b ab,id⟩) (λ_ h=>h.elim);obtain⟨⟨kd,du,gJ,j4,dx⟩,bw⟩:=dR.fB 0;change au az F w0 w0 [bh [aw c4 [U wid,U ep,.bool up,kd,ptr du 0,.map (some gJ),ptr dx 0] 95,aP aG.encI 3 1 kd ks,hT 164 123 5 du life K,jq fD mj gJ (ll ks j4 B),l0 j4 (ks.map (gn B)),j1 176 172 dx q]] at bw;have a6:=(bw.u 0 []).n6;refine bP func14 rfl ntmps14 rfl (have f1:=a6.k 0;.go 4 rfl (.ac (.aH zM rfl (zN (w0:=w0) f1) ?_)));rintro _ ai ⟨rfl,av⟩;have bc:=a6.ext av;cases up
 case true =>
  refine .z (.not rfl) (.go 7 rfl (.z (.iA qP rfl b0 zeroValue38) ?_));refine .go 3 rfl (.ac (.alloc nY λaZ aL aA aF cq aW=>have bd:=(bc.cS aA aF aW).n7;have f2:=bd.k 6;.ac (.st nY f2 λbp aM bQ=>?_)));have ba:=(bd.db 6 aM bQ.hG).n7;refine .ae 3 rfl (eT (λi=>Nat.beq i 14) 26 (λao=>Mod (b3 0) bp ao) mixed λbX aY=>have bm:=ba.ext aY;have jt:Mod (b3 0) bp bX:=Mod.gb aY;⟨jt,?_⟩);refine .gd 26 rfl (.nil (.go 6 rfl ?_));refine .z (.pD pW rfl) (.go 3 rfl (.ac (.alloc ed λcH aQ bu aJ fF cP=>?_)));have bC:=(bm.cS bu aJ cP).n8;have f3:=bC.k 7;refine .ac (.st ed f3 λc8 b2 df=>?_);have bL:=(bC.o0 (cs':=(ej a)) (i:=7) rfl b2 df).n8;refine .ae 3 rfl (eT (λi=>Nat.beq i 4) 31 (λao=>Mod (b3 0) c8 ao) mixed λdA cC=>have bq:=bL.ext cC;have lg:Mod (b3 0) c8 dA:=Mod.gb cC;⟨lg,?_⟩);have f4:=bL.k 7;refine .gd 2 rfl (.z rfl (.cB ed rfl (λ_ al=>f4.row.bF al (Nat.succ_ne_zero _)) rfl) (.z rfl (.mkIf pW rfl) ?_));refine .ac rfl (.aH amL rfl (anO (w0:=dA) (m:=a) Gz aa aa) ?_);rintro _ eM ⟨⟨bx,aX,rfl⟩,dg⟩;have bO:=bq.ext dg;have sI:=lg.ext dg;refine⟨.inr sI,.gd 2 rfl ?_⟩;cases bx
  case true =>
   replace aX:=aX.symm;refine .z rfl (.fieldAddr A1 rfl) (have f5:=bL.k 7;.z rfl (.ca aK rfl (λ_ al=>(f5.cell 4 _ rfl).bF al (Nat.succ_ne_zero _))) (.gd 2 rfl ?_));refine .z rfl (.fieldAddr Bv rfl) (have f6:=bL.k 0;.z rfl (.ca aK rfl (λ_ al=>(f6.cell 1 _ rfl).bF al (Nat.succ_ne_zero _))) (.gk rfl (.eq rfl rfl) (λbr=>?_) λbr=>?_))
   . refine .gd 2 rfl (.z rfl (.fieldAddr A1 rfl) (.z rfl (.ca aK rfl (λ_ al=>(f5.cell 4 _ rfl).bF al (Nat.succ_ne_zero _))) ?_));refine .bg rfl (.gt rfl rfl) (λcE=>?_) λcE=>?_
     . refine .gd 4 rfl (.z rfl (.fieldAddr Gl rfl) (.z rfl (.ca Gi rfl (λ_ al=>(f6.cell 5 _ rfl).bF al (Nat.succ_ne_zero _))) ?_));refine .z rfl (.fieldAddr qE rfl) (.z rfl (.ca aK rfl (λ_ al=>(f5.cell 2 _ rfl).bF al (Nat.succ_ne_zero _))) ?_);have f7:=bL.mp (i:=3) rfl;have Bz:j4.length=ks.length:=(Pr (bO.nG 4).choose_spec.1).trans (List.length_map ..);rcases Pa (B:=B) Bz a.shard with ⟨KK,pd⟩|⟨j,oC,BA,BB,pd⟩
       . skip
         refine .z rfl (.VD (key:=fD) (val:=mj) (u3 underlying3) underlying92 zeroValue101 rfl rfl (λ_ al=>(kP.keep f7 al (Nat.succ_ne_zero _)).o) pd) (.z rfl (.field (v:=(.pointer none:Value)) rfl (λ_=>by kernel_rfl)) (.z rfl (.HI underlying99 rfl rfl) ?_));refine .gd 1 rfl (.nil (.go 5 rfl ?_));refine .z (.iA qp rfl b0 zeroValue104) (.go 3 rfl (.ac (.alloc kc λff dd dn cw g_ e5=>?_)));have bS:=(bO.cS dn cw e5).ic;have f8:=bS.k 8;refine .ac (.store kc rfl rfl rfl rfl rfl f8 dm λfv dS ka gA=>have ck:=(bS.db 8 dS gA.c2).ic;.ae 8 rfl (kp func14 rfl ?_));have cJ:=(ck.dd [6,7,8] 0 1 2 3 4 5).bU;have da:=(cJ.mE (s:=⟨ep,true,life,K,B,q⟩) 3 rfl).bU;rw[yi (ep:=ep) (life:=life) (K:=K) (B:=B) (q:=q) (ks:=ks) (a:=a) Gy];exact da.rt 3 rfl rfl
       . skip
         have BC:(ks.map (gn B))[j]?=some (gn B a.shard):=(by rw[List.getElem?_map,BA];rfl);have KL:=List.mem_of_getElem? BA;obtain⟨anR,anS,Gx,anT⟩:=bO.Pq (i:=4) rfl BB BC;rcases Gx with ⟨cK,hq⟩|⟨anU,_,_,cK,hq,_⟩
         . subst cK;refine .z rfl (.E5 (key:=fD) (val:=mj) (u3 underlying3) underlying92 zeroValue101 rfl rfl (λ_ al=>(kP.keep f7 al (Nat.succ_ne_zero _)).o) pd) (.z rfl (.field (v:=(.pointer none:Value)) rfl (λ_=>by kernel_rfl)) (.z rfl (.HI underlying99 rfl rfl) ?_));refine .gd 1 rfl (.nil (.go 5 rfl ?_));refine .z (.iA qp rfl b0 zeroValue104) (.go 3 rfl (.ac (.alloc kc λff dd dn cw g_ e5=>?_)));have bS:=(bO.cS dn cw e5).ic;have f8:=bS.k 8;refine .ac (.store kc rfl rfl rfl rfl rfl f8 dm λfv dS ka gA=>have ck:=(bS.db 8 dS gA.c2).ic;.ae 8 rfl (kp func14 rfl ?_));have cJ:=(ck.dd [6,7,8] 0 1 2 3 4 5).bU;have da:=(cJ.mE (s:=⟨ep,true,life,K,B,q⟩) 3 rfl).bU;rw[yi (ep:=ep) (life:=life) (K:=K) (B:=B) (q:=q) (ks:=ks) (a:=a) Gy];exact da.rt 3 rfl rfl
         . subst cK;refine .z rfl (.E5 (key:=fD) (val:=mj) (u3 underlying3) underlying92 zeroValue101 rfl rfl (λ_ al=>(kP.keep f7 al (Nat.succ_ne_zero _)).o) pd) (.z rfl (.field (v:=ptr anU 0) rfl (λ_=>by kernel_rfl)) (.z rfl (.HI underlying99 rfl rfl) ?_));refine .gd 1 rfl (.nil (.ae 1 rfl ?_));refine eT (λi=>Nat.beq i 5) 6 (λao=>ds ao c4 [U wid,U ep,.bool true,kd,ptr du 0,.map (some gJ),ptr dx 0] 95/\ds ao aQ (ej a) 35) mixed λff dn=>have b5:=bO.ext dn;have f8:=b5.k 0;have f9:=b5.k 7;⟨⟨f8,f9⟩,?_⟩
           refine .gd 2 rfl (.z rfl (.fieldAddr Gm rfl) (.z rfl (.ca vp rfl (λ_ al=>(al.1.cell 6 _ rfl))) ?_));refine .z rfl (.cB ed rfl (λ_ al=>al.2.row) rfl) ?_;obtain⟨h8,dz,dt,de⟩:=b5.eH 5;refine .ac rfl (.aH amO rfl (akq (w0:=ff) (a:=a) dz (λb ab=>(dt b ab).2) Gz aa) ?_);rintro _ fv ⟨rfl,dS,fs,fm,eg⟩;have bS:=(de _ _ _ dS fm eg).n8;clear de fm;have f12:=bS.k 0;have f13:=bS.k 7;refine⟨.inr ⟨f12,f13⟩,.nil (.go 3 rfl ?_)⟩;refine .z (.iA qp rfl b0 zeroValue104) (.go 3 rfl (.ac (.alloc kc λht dd eW cw g_ e5=>?_)));have cJ:=(bS.cS eW cw e5).ic;have f14:=cJ.k 8;refine .ac (.store kc rfl rfl rfl rfl rfl f14 dm λjm gQ ka gA=>have da:=(cJ.db 8 gQ gA.c2).ic;.ae 8 rfl (kp func14 rfl ?_));have dD:=(da.dd [6,7,8] 0 1 2 3 4 5).bU;have ek:=(dD.mE (s:=⟨ep,true,life,K,B,(gg q a)⟩) 3 rfl).bU;rw[Pl (ep:=ep) (life:=life) (K:=K) (B:=B) (q:=q) (ks:=ks) (a:=a) (Pj Gz Gz Gz KL hq)];exact ek.rt 3 rfl rfl
     refine .gd 12 rfl (.nil (.go 5 rfl ?_));refine .z (.iA qp rfl b0 zeroValue104) (.go 3 rfl (.ac (.alloc kc λff dd dn cw g_ e5=>?_)));have bS:=(bO.cS dn cw e5).ic;have f7:=bS.k 8;refine .ac (.store kc rfl rfl rfl rfl rfl f7 dm λfv dS ka gA=>have ck:=(bS.db 8 dS gA.c2).ic;.ae 8 rfl (kp func14 rfl ?_));have cJ:=(ck.dd [6,7,8] 0 1 2 3 4 5).bU;have da:=(cJ.mE (s:=⟨ep,true,life,K,B,q⟩) 3 rfl).bU;rw[yi (ep:=ep) (life:=life) (K:=K) (B:=B) (q:=q) (ks:=ks) (a:=a) Gy];exact da.rt 3 rfl rfl
   refine .gd 17 rfl (.nil (.go 5 rfl ?_));refine .z (.iA qp rfl b0 zeroValue104) (.go 3 rfl (.ac (.alloc kc λff cA dn cE g_ e5=>?_)));have bS:=(bO.cS dn cE e5).ic;have f7:=bS.k 8;refine .ac (.store kc rfl rfl rfl rfl rfl f7 dm λfv dS ka gA=>have ck:=(bS.db 8 dS gA.c2).ic;.ae 8 rfl (kp func14 rfl ?_));have cJ:=(ck.dd [6,7,8] 0 1 2 3 4 5).bU;have da:=(cJ.mE (s:=⟨ep,true,life,K,B,q⟩) 3 rfl).bU;rw[yi (ep:=ep) (life:=life) (K:=K) (B:=B) (q:=q) (ks:=ks) (a:=a) Gy];exact da.rt 3 rfl rfl
  replace aX:=aX.symm;refine .gd 24 rfl (.nil (.go 5 rfl ?_));refine .z (.iA qp rfl b0 zeroValue104) (.go 3 rfl (.ac (.alloc kc λff bI dn br g_ e5=>?_)));have bS:=(bO.cS dn br e5).ic;have f5:=bS.k 8;refine .ac (.st kc f5 λfv dS gA=>?_);have ck:=(bS.db 8 dS gA.c2).ic;refine .ae 8 rfl (kp func14 rfl ?_);have cJ:=(ck.dd [6,7,8] 0 1 2 3 4 5).bU;have da:=(cJ.mE (s:=⟨ep,true,life,K,B,q⟩) 3 rfl).bU;rw[yi (ep:=ep) (life:=life) (K:=K) (B:=B) (q:=q) (ks:=ks) (a:=a) Gy];exact da.rt 3 rfl rfl
 refine .z (.not rfl) (.ae 2 rfl (tD func14 rfl ?_));have a1:=(bc.dd [] 0 1 2 3 4 5).cf;have bd:=(a1.mE (s:=⟨ep,false,life,K,B,q⟩) 0 rfl).cf;rw[zA];exact bd.rt 0 rfl rfl
end Go.Proofs
