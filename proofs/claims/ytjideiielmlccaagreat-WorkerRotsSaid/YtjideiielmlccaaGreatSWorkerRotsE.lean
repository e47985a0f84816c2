/-
  What the law WorkerRots needs, part 5 of 7: theory, and walks through the code. Names are said short.
-/
import Derived.Test.YtjideiielmlccaaGreatSWorkerRotsD
set_option linter.unusedVariables false
set_option linter.unusedSimpArgs false
set_option maxRecDepth 20000
set_option maxHeartbeats 8000000
namespace Go.Proofs
open Go.aA Go.ab
theorem vx {w0:World} {F G:Nat→Prop} {jg:Nat} {dy:Value} {b:List UInt8} (a:Int) (q:Bool) (size:Nat) (bg:(az (R:=fun _=>False) jg [dy,.int .i64 a,.bool q] 217).p F w0) (bO:∀ b,F b→b < w0.heap.size) (U:ak dR w0 G dy b) (cC:∀ b,G b→¬ F b) (fj:∀ b,G b→b < w0.heap.size) (ao:0≤a∧a≤b.length) (jT:b.length≤4000000) (dr:1≤size∧size≤4) :
 Calls Tryz.prog 138 #[ptr jg 0,.int .i64 (size:Int)] w0 (aj fun aD ai=>aD=.int .i64 (dn b size (a,q)).1∧Mod F w0 ai∧∃ cO,(az (R:=fun _=>False) jg [dy,.int .i64 ((dn b size (a,q)).2.1),.bool (dn b size (a,q)).2.2] 217).p cO ai∧∀ b,cO b→b < ai.heap.size∧(F b∨w0.heap.size≤b)):=by
 have gB:=ar.nu (R:=fun _=>False) bg (fun b U=>⟨bO b U,id⟩) (fun _ h=>h.elim);have cP:ar (fun _=>False) F w0 w0 [az jg [dy,.int .i64 a,.bool q] 217]:=gB;have Uo:=U.le;refine bS Tryz.func138 rfl Tryz.ntmps138 rfl (.ae 5 rfl (fx (fun i=>Nat.beq i 9) 15 (fun ah=>Mod (b5 0) w0 ah) mixed (by kernel_rfl) fun ai au=>?_));have bx:=cP.ext au;have zY:Mod (b5 0) w0 ai:=Mod.gW au;refine ⟨zY,?_⟩;rw [show List.range' 0 (Array.size _)=[0,1,2,3,4,5,6,7,8,9,10,11,12,13,14] from rfl];refine .gd 2 rfl (.z rfl (.fieldAddr ad5 rfl) (have f1:=cP.k 0;.z rfl (.cT vm rfl (fun _ an=>(f1.cell 0 _ rfl).bt an (Nat.succ_ne_zero _))) ?_));refine .gd 2 rfl (.z rfl (.fieldAddr Hd rfl) (.z rfl (.cT aP rfl (fun _ an=>(f1.cell 1 _ rfl).bt an (Nat.succ_ne_zero _))) ?_));have f2:=bx.out U cC;refine .gd 1 rfl (.ac rfl (.aE TL rfl (TV (w0:=ai) (b:=b) (a) (size) (f2.mono (fun b U=>⟨Nat.zero_le _,Nat.lt_of_lt_of_le (fj b U) bx.mod.size⟩)) cu (by first|assumption|omega|(simp only [List.length_append,eM,List.length_cons,List.length_nil]; omega)) (by first|omega|decide)) ?_));rintro _ aZ ⟨_,_,rfl,rfl,⟨aG,aJ,rfl⟩,ax⟩;have bJ:=bx.ext ax;have o_:=zY.ext ax;refine ⟨.inr o_,(have:=CZ b a size;.gd 5 rfl (.nil ?_))⟩;refine .go 4 rfl ?_;cases aG
 case true =>
  replace aJ:=aJ.symm;refine .z (.not rfl) (.go 7 rfl (have f3:=bJ.k 0;.a_ Hd aP f3 ?_));refine .go 1 rfl (.z (.bZ ((a+(((size:Nat):Int)))) rfl rfl (by omega)) (.go 1 rfl ?_));refine .z (.fieldAddr Hd rfl) (.ac (.store aP rfl rfl rfl rfl rfl f3 dx fun bz aM c9 a1=>have b2:=(bJ.cL (cs':=[dy,.int .i64 ((a+(((size:Nat):Int)))),.bool q]) (i:=0) rfl aM a1).cJ;.ae 6 rfl ?_));refine aL Tryz.func138 rfl rfl ?_;obtain ⟨cD,c0,c3,cQ⟩:=b2.fin;have qy:dn b size (a,q)=((iP b a size),((a+(((size:Nat):Int))),q)):=(by first|exact tL (by assumption)|exact xK (by assumption));exact aj.mk ⟨by first|(rw [qy]; done)|(rw [qy]; rfl),cD,c0,by rw [qy]; exact c3,cQ⟩
 replace aJ:=aJ.symm;refine .z (.not rfl) (.go 6 rfl (.z (.fieldAddr qm rfl) ?_));have f3:=bJ.k 0;refine .ac (.st fW f3 fun bz aM a1=>have b2:=(bJ.cL (cs':=[dy,.int .i64 a,.bool true]) (i:=0) rfl aM a1).cJ;.ae 5 rfl (aL Tryz.func138 rfl rfl ?_));obtain ⟨cD,c0,c3,cQ⟩:=b2.fin;have qy:dn b size (a,q)=(0,(a,true)):=(by first|exact tL (by assumption)|exact xK (by assumption));exact aj.mk ⟨by first|(rw [qy]; done)|(rw [qy]; rfl),cD,c0,by rw [qy]; exact c3,cQ⟩
theorem HK {p:Prop} (h:p:=by first|rfl|(simp; done)|(rw [Bool.false_or]; assumption)|(rw [Bool.true_or])):p:=h
theorem HL {p:Prop} (h:p:=by first|exact km.step (by omega) (aal qz (by first|rfl|(simp; done)|(rw [Bool.false_or]; assumption)|(rw [Bool.true_or])) lD)|(exfalso; omega)):p:=h
theorem hW {p:Prop} (h:p:=by omega):p:=h
theorem k_ {p:Prop} (h:p:=by decide):p:=h
theorem yj {p:Prop} (h:p:=by first|omega|(exfalso; omega)):p:=h
theorem afI {w0:World} {F G:Nat→Prop} {jg:Nat} {dy:Value} {b:List UInt8} (a:Int) (q:Bool) (bg:(az (R:=fun _=>False) jg [dy,.int .i64 a,.bool q] 217).p F w0) (bO:∀ b,F b→b < w0.heap.size) (U:ak dR w0 G dy b) (cC:∀ b,G b→¬ F b) (fj:∀ b,G b→b < w0.heap.size) (ao:0≤a∧a≤b.length) (jT:b.length≤4000000) :
 Calls Tryz.prog 139 #[ptr jg 0] w0 (aj fun aD ai=>∃ zp Up,aD=.agg #[.bool (kJ b (a,q)).1.1,.slice zp (kJ b (a,q)).1.2.length Up]∧Mod F w0 ai∧∃ cO,(bA (R:=fun _=>False) [az jg [dy,.int .i64 ((kJ b (a,q)).2.1),.bool (kJ b (a,q)).2.2] 217,bb eg 233 2 (.slice zp (kJ b (a,q)).1.2.length Up) (kJ b (a,q)).1.2]).p cO ai∧∀ b,cO b→b < ai.heap.size∧(F b∨w0.heap.size≤b)):=by
 have gB:=ar.nu (R:=fun _=>False) bg (fun b U=>⟨bO b U,id⟩) (fun _ h=>h.elim);have cP:ar (fun _=>False) F w0 w0 [az jg [dy,.int .i64 a,.bool q] 217]:=gB;have Uo:=U.le;refine bS Tryz.func139 rfl Tryz.ntmps139 rfl (.go 2 rfl (.ac (.alloc mT fun ai aG au aJ c9 a1=>?_)));have bJ:=(cP.dm au aJ a1).cK;have f1:=bJ.out U cC;obtain ⟨jY,et,dZ,d'⟩:=bJ.act (i:=0) rfl;refine .go 4 rfl (.ac (.aE vp rfl (vx (w0:=ai) (G:=G) a q 1 et (fun b U=>(dZ b U).2) f1 (fun b U ad=>by have:=(dZ b ad).1.1; rcases this with h|h; exact cC b U h; have:=fj b U; omega) (fun b U=>Nat.lt_of_lt_of_le (fj b U) bJ.mod.size) hW jT hW) ?_));rintro _ aZ ⟨rfl,ax,gb,gV,fu⟩;obtain ⟨⟨o',nb,pR⟩,kn⟩:∃ x,x=dn b 1 (a,q):=⟨_,rfl⟩;rw [←kn] at gV;rw [←kn];dsimp only at gV ⊢;have Uq:=pz (by omega) (by omega) kn.symm;have b2:=(d' _ _ _ ax gV fu).cK;clear et dZ d' gV fu;have akM:=r1 kn.symm (by omega);refine .go 5 rfl (.ev (.eq rfl rfl) fun aN aK=>.z (.build (vs:=#[(0,(.bool aN:Value))]) (v:=.agg #[.bool aN,.slice none 0 0]) rfl (fun _=>by kernel_rfl)) (.ac (.alloc mT fun bz bn aM aV eY bH=>have bo:=(b2.dm aM aV bH).dM;have f2:=bo.k 2;.ac (.st mT f2 fun cj aW cE=>have bR:=(bo.cL (cs':=[.bool aN,.slice none 0 0]) (i:=2) rfl aW cE).dM;.go 6 rfl (have f3:=bR.k 0;.a_ qm fW f3 (.go 1 rfl ?_))))));cases pR
 case true =>
  refine .go 4 rfl (.z (.fieldAddr qm rfl) (.ac (.store fW rfl rfl rfl rfl rfl f3 dx fun cM bh gT da=>?_)));have cv:=(bR.cL (cs':=[dy,.int .i64 nb,.bool true]) (i:=0) rfl bh da).dM;have f4:=cv.out U cC;obtain ⟨z6,oh,mm,nc⟩:=cv.act (i:=0) rfl;refine .go 5 rfl (.ac (.aE vp rfl (vx (w0:=cM) (G:=G) nb true 2 oh (fun b U=>(mm b U).2) f4 (fun b U ad=>by have:=(mm b ad).1.1; rcases this with h|h; exact cC b U h; have:=fj b U; omega) (fun b U=>Nat.lt_of_lt_of_le (fj b U) cv.mod.size) hW jT hW) ?_));rintro _ de ⟨rfl,bQ,cO,gC,hD⟩;obtain ⟨⟨rk,oL,oM⟩,nE⟩:∃ x,x=dn b 2 (nb,true):=⟨_,rfl⟩;rw [←nE] at gC;rw [←nE];dsimp only at gC ⊢;have Ur:=pz (by omega) (by omega) nE.symm;have cI:=(nc _ _ _ bQ gC hD).dM;clear oh mm nc gC hD;have afJ:=r1 nE.symm (by omega);have b8:ar (fun _=>False) F w0 de [az jg [dy,.int .i64 oL,.bool oM] 217,az aG [.bool false,.slice none 0 0] 221,az bn [.bool aN,.slice none 0 0] 221,bb eg 233 2 (.slice none 0 0) []]:=cI.fU (Mod.refl _ _) Acc.nil (.inl rfl);have bW:=(b8.aN [0,1] 2 3 (by rfl) k_).dM;have ct:ar (fun _=>False) F w0 de [az jg [dy,.int .i64 oL,.bool oM] 217,az aG [.bool false,.slice none 0 0] 221,xL 221 233 bn aN []]:=bW.hJ (.slice none 0 0) (i:=2) rfl;refine .ae 3 rfl (dU (I:=fun m E W=>∃ (gv:Int) (kQ:Bool) (k:Nat) (es:List bm),E=[(0,ptr jg 0),(2,ptr aG 0),(4,ptr bn 0),(23,.int .i64 rk),(24,.int .i64 (((k:Nat):Int)))]∧m=rk.toNat-k∧ar (fun _=>False) F w0 W [az jg [dy,.int .i64 gv,.bool kQ] 217,az aG [.bool false,.slice none 0 0] 221,xL 221 233 bn aN es]∧(o1 b rk.toNat (oL,oM) k es (gv,kQ))∧(0≤gv∧gv≤b.length)∧((k:Int)≤rk)∧(es.length≤k)) ?_ ?_)
  · refine ⟨_,_,⟨(oL:Int),(oM:Bool),(0:Nat),([]:List bm),rfl,rfl,ct,(by exact o1.start _ _ _),hW,hW,(by simp)⟩,⟨rfl,rfl,rfl,rfl,rfl,trivial⟩⟩
  · rintro _ _ dv ⟨gv,kQ,k,es,rfl,rfl,cq,km,vy,n4,afK⟩ bV;refine .go 2 rfl (.aX (.lt rfl rfl) (fun bc=>?_) fun bc=>?_)
    · refine .go 11 rfl (have f5:=cq.k 0;.a_ qm fW f5 (.ae 1 rfl ?_));cases kQ
      case true =>
       obtain ⟨e2,bF⟩:=cq.iO (i:=2) rfl;change ar (fun _=>False) F w0 dv [az jg [dy,.int .i64 gv,.bool true] 217,az aG [.bool false,.slice none 0 0] 221,bA [az bn [.bool aN,e2] 221,bb eg 233 2 e2 es]] at bF;have cg:=(bF.un 2 rfl [0,1] (by rfl) k_).bu;obtain ⟨g1,f6,b6,bw⟩:=cg.bU (i:=3) rfl;obtain ⟨br,bs,ej⟩:=f6.shape;refine .go 4 rfl ?_;subst ej;have f7:=cg.k 2;refine .z (.c4 mT rfl (fun _ e=>e▸f7.row) rfl) ?_;have f8:=cg.k 1;refine .ac (.store mT rfl rfl rfl rfl rfl f8 dx fun en b3 gL eT=>have cz:=(cg.cL (cs':=[.bool aN,(.slice br es.length bs)]) (i:=1) rfl b3 eT).bu;have f9:=cz.k 1;.ae 1 rfl (xC Tryz.func139 rfl rfl mT f9.row rfl ?_));have cS:=(cz.aN [1,2] 0 3 (by rfl) k_).dM;have dd:=(cS.dj [2] (by rfl) k_).cJ;obtain ⟨cD,c0,c3,cQ⟩:=dd.fin;have ky:i' b rk.toNat (oL,oM)=(es,(gv,true)):=(by first|exact km.bad|exact km.fin hW);have kr:kJ b (a,q)=((aN,es),(gv,true)):=(by first|exact Gj kn HK nE ky (by assumption));exact aj.mk ⟨_,_,by rw [kr],cD,c0,by rw [kr]; exact c3,cQ⟩
      have f6:=cq.out U cC;obtain ⟨D2,rl,pa,pb⟩:=cq.act (i:=0) rfl;refine .go 5 rfl (.ac (.aE vp rfl (vx (w0:=dv) (G:=G) gv false 4 rl (fun b U=>(pa b U).2) f6 (fun b U ad=>by have:=(pa b ad).1.1; rcases this with h|h; exact cC b U h; have:=fj b U; omega) (fun b U=>Nat.lt_of_lt_of_le (fj b U) cq.mod.size) hW jT hW) ?_));rintro _ en ⟨rfl,b3,zu,rm,qA⟩;obtain ⟨⟨hE,l0,vz⟩,qz⟩:∃ x,x=dn b 4 (gv,false):=⟨_,rfl⟩;rw [←qz] at rm;rw [←qz];dsimp only at rm ⊢;have Us:=pz hW hW qz.symm;have bF:=(pb _ _ _ b3 rm qA).dM;clear rl pa pb rm qA;refine .go 7 rfl (have f7:=bF.k 0;.a_ qm fW f7 (.go 1 rfl ?_));cases vz
      case true =>
       refine .go 4 rfl (.z (.fieldAddr qm rfl) (.ac (.store fW rfl rfl rfl rfl rfl f7 dx fun eE cF gL eT=>?_)));have cg:=(bF.cL (cs':=[dy,.int .i64 l0,.bool true]) (i:=0) rfl cF eT).dM;obtain ⟨e2,cz⟩:=cg.iO (i:=2) rfl;change ar (fun _=>False) F w0 eE [az jg [dy,.int .i64 l0,.bool true] 217,az aG [.bool false,.slice none 0 0] 221,bA [az bn [.bool aN,e2] 221,bb eg 233 2 e2 es]] at cz;have cS:=(cz.un 2 rfl [0,1] (by rfl) k_).bu;refine .ae 1 rfl (fx (fun i=>Nat.beq i 5 || Nat.beq i 7 || Nat.beq i 8 || Nat.beq i 10) 10 (fun ah=>Row ah bn 1 [e2]) mixed (by kernel_rfl) fun eO cG=>have dd:=cS.ext cG;have f8:=dd.k 2;⟨(f8.cell 1 _ rfl),?_⟩);rw [show List.range' 0 (Array.size _)=[0,1,2,3,4,5,6,7,8,9,10] from rfl];refine .z rfl (.fieldAddr vo rfl) (.z rfl (.cT ki rfl (fun _ an=>an)) (.gd 1 rfl (.z rfl (.rK (by kernel_rfl) Tryz.underlying21 rfl) ?_)));have f10:=dd.out U cC;obtain ⟨z7,nF,lE,mn⟩:=dd.act (i:=0) rfl;refine .gd 1 rfl (.ac rfl (.aE vp rfl (vx (w0:=eO) (G:=G) l0 true 2 nF (fun b U=>(lE b U).2) f10 (fun b U ad=>by have:=(lE b ad).1.1; rcases this with h|h; exact cC b U h; have:=fj b U; omega) (fun b U=>Nat.lt_of_lt_of_le (fj b U) dd.mod.size) hW jT hW) ?_));rintro _ gi ⟨rfl,cX,z8,l1,oi⟩;obtain ⟨⟨gM,qB,qC⟩,lD⟩:∃ x,x=dn b 2 (l0,true):=⟨_,rfl⟩;rw [←lD] at l1;rw [←lD];dsimp only at l1 ⊢;have HM:=pz hW hW lD.symm;have dI:=(mn _ _ _ cX l1 oi).bu;clear nF lE mn l1 oi;have L3:=r1 lD.symm (by omega);have f11:=dI.k 2;refine ⟨.inr (f11.cell 1 _ rfl),.z rfl (.build (vs:=#[(0,(.int .i32 ((IntKind.i32.wrap hE)):Value)),(1,(.int .i64 gM:Value))]) (v:=.agg #[.int .i32 ((IntKind.i32.wrap hE)),.int .i64 gM]) rfl (fun _=>by kernel_rfl)) (.ac rfl (.buildSlice [(.agg #[.int .i32 ((IntKind.i32.wrap hE)),.int .i64 gM]:Value)] Tryz.underlying219 dY rfl rfl rfl k_ fun hA cR dV cy i1 fZ=>have b6:=ak.eP (enc:=eg) fZ ([(bm.mk ((IntKind.i32.wrap hE)) gM)]:List bm) 1 rfl rfl (by unfold maxLen; omega);have dK:=(dI.iD dV cy i1 b6).c6;have f12:=dK.k 2;⟨.inr (f12.cell 1 _ rfl),?_⟩))⟩;obtain ⟨g2,f13,dG,bw⟩:=dK.bU (i:=3) rfl;have f14:=dK.bl (i:=4) (k:=0) rfl rfl;refine .ac rfl (.append f13 Tryz.underlying219 dY rfl j' tB rfl rfl (f14) ol gA fun v1 g1 j4 b7 fG cf uh=>have ds:=(bw _ _ _ _ fG b7 cf).c6;have f15:=ds.k 2;⟨.inr (f15.cell 1 _ rfl),?_⟩);clear cf;refine .z rfl (.fieldAddr vo rfl) ?_;obtain ⟨g3,f16,e1,cB⟩:=ds.bU (i:=3) rfl;obtain ⟨br,bs,ej⟩:=f16.shape;subst ej;exact .ac rfl (.store ki rfl rfl rfl rfl rfl f15 dx fun lC hV D3 oj=>have fs:=(ds.cL (cs':=[.bool aN,(.slice br ((es++[(bm.mk ((IntKind.i32.wrap hE)) gM)])).length bs)]) (i:=2) rfl hV oj).c6;⟨.inl rfl,.nil (have eW:=(fs.aN [0,1,4] 2 3 (by rfl) k_).bu;have fR:ar (fun _=>False) F w0 lC [az jg [dy,.int .i64 qB,.bool qC] 217,az aG [.bool false,.slice none 0 0] 221,ff eg [((.slice (some ⟨cR,0,none⟩) 1 1),[(bm.mk ((IntKind.i32.wrap hE)) gM)])],xL 221 233 bn aN ((es++[(bm.mk ((IntKind.i32.wrap hE)) gM)]))]:=eW.hJ (.slice br ((es++[(bm.mk ((IntKind.i32.wrap hE)) gM)])).length bs) (i:=3) rfl;.go 2 rfl (.z (.bZ (((k+1:Nat):Int)) rfl rfl hW) (have fB:=(fR.dj [0,1,3] (by rfl) k_).dM;.ae 2 rfl ((bV _ _ _ ⟨(qB:Int),(qC:Bool),(k+1:Nat),((es++[(bm.mk ((IntKind.i32.wrap hE)) gM)]):List bm),rfl,rfl,fB,HL,yj,yj,(by first|(simp only [List.length_append,List.length_cons,List.length_nil]; omega)|(exfalso; omega))⟩ hW).sub ⟨rfl,rfl,rfl,rfl,rfl,trivial⟩))))⟩)
      refine .go 1 rfl (.ev (.gt rfl rfl) fun cR cy=>.go 2 rfl (.z (.fieldAddr qm rfl) (.ac (.store fW rfl rfl rfl rfl rfl f7 dx fun eE cF gL eT=>?_))));have cg:=(bF.cL (cs':=[dy,.int .i64 l0,.bool cR]) (i:=0) rfl cF eT).dM;obtain ⟨e2,cz⟩:=cg.iO (i:=2) rfl;change ar (fun _=>False) F w0 eE [az jg [dy,.int .i64 l0,.bool cR] 217,az aG [.bool false,.slice none 0 0] 221,bA [az bn [.bool aN,e2] 221,bb eg 233 2 e2 es]] at cz;have cS:=(cz.un 2 rfl [0,1] (by rfl) k_).bu;refine .ae 1 rfl (fx (fun i=>Nat.beq i 5 || Nat.beq i 7 || Nat.beq i 8 || Nat.beq i 10) 10 (fun ah=>Row ah bn 1 [e2]) mixed (by kernel_rfl) fun eO cG=>have dd:=cS.ext cG;have f8:=dd.k 2;⟨(f8.cell 1 _ rfl),?_⟩);rw [show List.range' 0 (Array.size _)=[0,1,2,3,4,5,6,7,8,9,10] from rfl];refine .z rfl (.fieldAddr vo rfl) (.z rfl (.cT ki rfl (fun _ an=>an)) (.gd 1 rfl (.z rfl (.rK (by kernel_rfl) Tryz.underlying21 rfl) ?_)));have f10:=dd.out U cC;obtain ⟨z7,nF,lE,mn⟩:=dd.act (i:=0) rfl;refine .gd 1 rfl (.ac rfl (.aE vp rfl (vx (w0:=eO) (G:=G) l0 cR 2 nF (fun b U=>(lE b U).2) f10 (fun b U ad=>by have:=(lE b ad).1.1; rcases this with h|h; exact cC b U h; have:=fj b U; omega) (fun b U=>Nat.lt_of_lt_of_le (fj b U) dd.mod.size) hW jT hW) ?_));rintro _ gi ⟨rfl,cX,z8,l1,oi⟩;obtain ⟨⟨gM,qB,qC⟩,lD⟩:∃ x,x=dn b 2 (l0,cR):=⟨_,rfl⟩;rw [←lD] at l1;rw [←lD];dsimp only at l1 ⊢;have HM:=pz hW hW lD.symm;have dI:=(mn _ _ _ cX l1 oi).bu;clear nF lE mn l1 oi;have L3:=r1 lD.symm (by omega);have f11:=dI.k 2;refine ⟨.inr (f11.cell 1 _ rfl),.z rfl (.build (vs:=#[(0,(.int .i32 ((IntKind.i32.wrap hE)):Value)),(1,(.int .i64 gM:Value))]) (v:=.agg #[.int .i32 ((IntKind.i32.wrap hE)),.int .i64 gM]) rfl (fun _=>by kernel_rfl)) (.ac rfl (.buildSlice [(.agg #[.int .i32 ((IntKind.i32.wrap hE)),.int .i64 gM]:Value)] Tryz.underlying219 dY rfl rfl rfl k_ fun hA c8 dV ck i1 fZ=>have b6:=ak.eP (enc:=eg) fZ ([(bm.mk ((IntKind.i32.wrap hE)) gM)]:List bm) 1 rfl rfl (by unfold maxLen; omega);have dK:=(dI.iD dV ck i1 b6).c6;have f12:=dK.k 2;⟨.inr (f12.cell 1 _ rfl),?_⟩))⟩;obtain ⟨g2,f13,dG,bw⟩:=dK.bU (i:=3) rfl;have f14:=dK.bl (i:=4) (k:=0) rfl rfl;refine .ac rfl (.append f13 Tryz.underlying219 dY rfl j' tB rfl rfl (f14) ol gA fun v1 g1 j4 b7 fG cf uh=>have ds:=(bw _ _ _ _ fG b7 cf).c6;have f15:=ds.k 2;⟨.inr (f15.cell 1 _ rfl),?_⟩);clear cf;refine .z rfl (.fieldAddr vo rfl) ?_;obtain ⟨g3,f16,e1,cB⟩:=ds.bU (i:=3) rfl;obtain ⟨br,bs,ej⟩:=f16.shape;subst ej;exact .ac rfl (.store ki rfl rfl rfl rfl rfl f15 dx fun lC hV D3 oj=>have fs:=(ds.cL (cs':=[.bool aN,(.slice br ((es++[(bm.mk ((IntKind.i32.wrap hE)) gM)])).length bs)]) (i:=2) rfl hV oj).c6;⟨.inl rfl,.nil (have eW:=(fs.aN [0,1,4] 2 3 (by rfl) k_).bu;have fR:ar (fun _=>False) F w0 lC [az jg [dy,.int .i64 qB,.bool qC] 217,az aG [.bool false,.slice none 0 0] 221,ff eg [((.slice (some ⟨c8,0,none⟩) 1 1),[(bm.mk ((IntKind.i32.wrap hE)) gM)])],xL 221 233 bn aN ((es++[(bm.mk ((IntKind.i32.wrap hE)) gM)]))]:=eW.hJ (.slice br ((es++[(bm.mk ((IntKind.i32.wrap hE)) gM)])).length bs) (i:=3) rfl;.go 2 rfl (.z (.bZ (((k+1:Nat):Int)) rfl rfl hW) (have fB:=(fR.dj [0,1,3] (by rfl) k_).dM;.ae 2 rfl ((bV _ _ _ ⟨(qB:Int),(qC:Bool),(k+1:Nat),((es++[(bm.mk ((IntKind.i32.wrap hE)) gM)]):List bm),rfl,rfl,fB,HL,yj,yj,(by first|(simp only [List.length_append,List.length_cons,List.length_nil]; omega)|(exfalso; omega))⟩ hW).sub ⟨rfl,rfl,rfl,rfl,rfl,trivial⟩))))⟩)
    refine .ae 2 rfl ?_;obtain ⟨e2,bF⟩:=cq.iO (i:=2) rfl;change ar (fun _=>False) F w0 dv [az jg [dy,.int .i64 gv,.bool kQ] 217,az aG [.bool false,.slice none 0 0] 221,bA [az bn [.bool aN,e2] 221,bb eg 233 2 e2 es]] at bF;have cg:=(bF.un 2 rfl [0,1] (by rfl) k_).bu;obtain ⟨g1,f5,b6,bw⟩:=cg.bU (i:=3) rfl;obtain ⟨br,bs,ej⟩:=f5.shape;refine .go 4 rfl ?_;subst ej;have f6:=cg.k 2;refine .z (.c4 mT rfl (fun _ e=>e▸f6.row) rfl) ?_;have f7:=cg.k 1;refine .ac (.store mT rfl rfl rfl rfl rfl f7 dx fun en b3 gL eT=>have cz:=(cg.cL (cs':=[.bool aN,(.slice br es.length bs)]) (i:=1) rfl b3 eT).bu;have f8:=cz.k 1;.ae 1 rfl (xC Tryz.func139 rfl rfl mT f8.row rfl ?_));have cS:=(cz.aN [1,2] 0 3 (by rfl) k_).dM;have dd:=(cS.dj [2] (by rfl) (by decide)).cJ;obtain ⟨cD,c0,c3,cQ⟩:=dd.fin;have ky:i' b rk.toNat (oL,oM)=(es,(gv,kQ)):=(by first|exact km.bad|exact km.fin hW);have kr:kJ b (a,q)=((aN,es),(gv,kQ)):=(by first|exact Gj kn HK nE ky (by assumption));exact aj.mk ⟨_,_,by rw [kr],cD,c0,by rw [kr]; exact c3,cQ⟩
 refine .go 1 rfl (.ev (.gt rfl rfl) fun bj bc=>.go 2 rfl (.z (.fieldAddr qm rfl) (.ac (.st fW f3 fun cM bh da=>?_))));have cv:=(bR.cL (cs':=[dy,.int .i64 nb,.bool bj]) (i:=0) rfl bh da).dM;have f4:=cv.out U cC;obtain ⟨z6,oh,mm,nc⟩:=cv.act (i:=0) rfl;refine .go 5 rfl (.ac (.aE vp rfl (vx (w0:=cM) (G:=G) nb bj 2 oh (fun b U=>(mm b U).2) f4 (fun b U ad=>by have:=(mm b ad).1.1; rcases this with h|h; exact cC b U h; have:=fj b U; omega) (fun b U=>Nat.lt_of_lt_of_le (fj b U) cv.mod.size) hW jT hW) ?_));rintro _ de ⟨rfl,bQ,cO,gC,hD⟩;obtain ⟨⟨rk,oL,oM⟩,nE⟩:∃ x,x=dn b 2 (nb,bj):=⟨_,rfl⟩;rw [←nE] at gC;rw [←nE];dsimp only at gC ⊢;have Ur:=pz (by omega) (by omega) nE.symm;have cI:=(nc _ _ _ bQ gC hD).dM;clear oh mm nc gC hD;have afJ:=r1 nE.symm (by omega);have b8:ar (fun _=>False) F w0 de [az jg [dy,.int .i64 oL,.bool oM] 217,az aG [.bool false,.slice none 0 0] 221,az bn [.bool aN,.slice none 0 0] 221,bb eg 233 2 (.slice none 0 0) []]:=cI.fU (Mod.refl _ _) Acc.nil (.inl rfl);have bW:=(b8.aN [0,1] 2 3 (by rfl) (by decide)).dM;have ct:ar (fun _=>False) F w0 de [az jg [dy,.int .i64 oL,.bool oM] 217,az aG [.bool false,.slice none 0 0] 221,xL 221 233 bn aN []]:=bW.hJ (.slice none 0 0) (i:=2) rfl;refine .ae 3 rfl (dU (I:=fun m E W=>∃ (gv:Int) (kQ:Bool) (k:Nat) (es:List bm),E=[(0,ptr jg 0),(2,ptr aG 0),(4,ptr bn 0),(23,.int .i64 rk),(24,.int .i64 (((k:Nat):Int)))]∧m=rk.toNat-k∧ar (fun _=>False) F w0 W [az jg [dy,.int .i64 gv,.bool kQ] 217,az aG [.bool false,.slice none 0 0] 221,xL 221 233 bn aN es]∧(o1 b rk.toNat (oL,oM) k es (gv,kQ))∧(0≤gv∧gv≤b.length)∧((k:Int)≤rk)∧(es.length≤k)) ?_ ?_)
 · refine ⟨_,_,⟨(oL:Int),(oM:Bool),(0:Nat),([]:List bm),rfl,rfl,ct,(by exact o1.start _ _ _),hW,hW,(by simp)⟩,⟨rfl,rfl,rfl,rfl,rfl,trivial⟩⟩
 · rintro _ _ dv ⟨gv,kQ,k,es,rfl,rfl,cq,km,vy,n4,afK⟩ bV;refine .go 2 rfl (.aX (.lt rfl rfl) (fun cy=>?_) fun cy=>?_)
   · refine .go 11 rfl (have f5:=cq.k 0;.a_ qm fW f5 (.ae 1 rfl ?_));cases kQ
     case true =>
      obtain ⟨e2,bF⟩:=cq.iO (i:=2) rfl;change ar (fun _=>False) F w0 dv [az jg [dy,.int .i64 gv,.bool true] 217,az aG [.bool false,.slice none 0 0] 221,bA [az bn [.bool aN,e2] 221,bb eg 233 2 e2 es]] at bF;have cg:=(bF.un 2 rfl [0,1] (by rfl) k_).bu;obtain ⟨g1,f6,b6,bw⟩:=cg.bU (i:=3) rfl;obtain ⟨br,bs,ej⟩:=f6.shape;refine .go 4 rfl ?_;subst ej;have f7:=cg.k 2;refine .z (.c4 mT rfl (fun _ e=>e▸f7.row) rfl) ?_;have f8:=cg.k 1;refine .ac (.store mT rfl rfl rfl rfl rfl f8 dx fun en b3 gL eT=>have cz:=(cg.cL (cs':=[.bool aN,(.slice br es.length bs)]) (i:=1) rfl b3 eT).bu;have f9:=cz.k 1;.ae 1 rfl (xC Tryz.func139 rfl rfl mT f9.row rfl ?_));have cS:=(cz.aN [1,2] 0 3 (by rfl) k_).dM;have dd:=(cS.dj [2] (by rfl) (by decide)).cJ;obtain ⟨cD,c0,c3,cQ⟩:=dd.fin;have ky:i' b rk.toNat (oL,oM)=(es,(gv,true)):=(by first|exact km.bad|exact km.fin hW);have kr:kJ b (a,q)=((aN,es),(gv,true)):=(by first|exact Gj kn HK nE ky (by assumption));exact aj.mk ⟨_,_,by rw [kr],cD,c0,by rw [kr]; exact c3,cQ⟩
     have f6:=cq.out U cC;obtain ⟨D2,rl,pa,pb⟩:=cq.act (i:=0) rfl;refine .go 5 rfl (.ac (.aE vp rfl (vx (w0:=dv) (G:=G) gv false 4 rl (fun b U=>(pa b U).2) f6 (fun b U ad=>by have:=(pa b ad).1.1; rcases this with h|h; exact cC b U h; have:=fj b U; omega) (fun b U=>Nat.lt_of_lt_of_le (fj b U) cq.mod.size) hW jT hW) ?_));rintro _ en ⟨rfl,b3,zu,rm,qA⟩;obtain ⟨⟨hE,l0,vz⟩,qz⟩:∃ x,x=dn b 4 (gv,false):=⟨_,rfl⟩;rw [←qz] at rm;rw [←qz];dsimp only at rm ⊢;have Us:=pz (by omega) (by omega) qz.symm;have bF:=(pb _ _ _ b3 rm qA).dM;clear rl pa pb rm qA;refine .go 7 rfl (have f7:=bF.k 0;.a_ qm fW f7 (.go 1 rfl ?_));cases vz
     case true =>
      refine .go 4 rfl (.z (.fieldAddr qm rfl) (.ac (.store fW rfl rfl rfl rfl rfl f7 dx fun eE cF gL eT=>?_)));have cg:=(bF.cL (cs':=[dy,.int .i64 l0,.bool true]) (i:=0) rfl cF eT).dM;obtain ⟨e2,cz⟩:=cg.iO (i:=2) rfl;change ar (fun _=>False) F w0 eE [az jg [dy,.int .i64 l0,.bool true] 217,az aG [.bool false,.slice none 0 0] 221,bA [az bn [.bool aN,e2] 221,bb eg 233 2 e2 es]] at cz;have cS:=(cz.un 2 rfl [0,1] (by rfl) k_).bu;refine .ae 1 rfl (fx (fun i=>Nat.beq i 5 || Nat.beq i 7 || Nat.beq i 8 || Nat.beq i 10) 10 (fun ah=>Row ah bn 1 [e2]) mixed (by kernel_rfl) fun eO cG=>have dd:=cS.ext cG;have f8:=dd.k 2;⟨(f8.cell 1 _ rfl),?_⟩);rw [show List.range' 0 (Array.size _)=[0,1,2,3,4,5,6,7,8,9,10] from rfl];refine .z rfl (.fieldAddr vo rfl) (.z rfl (.cT ki rfl (fun _ an=>an)) (.gd 1 rfl (.z rfl (.rK (by kernel_rfl) Tryz.underlying21 rfl) ?_)));have f10:=dd.out U cC;obtain ⟨z7,nF,lE,mn⟩:=dd.act (i:=0) rfl;refine .gd 1 rfl (.ac rfl (.aE vp rfl (vx (w0:=eO) (G:=G) l0 true 2 nF (fun b U=>(lE b U).2) f10 (fun b U ad=>by have:=(lE b ad).1.1; rcases this with h|h; exact cC b U h; have:=fj b U; omega) (fun b U=>Nat.lt_of_lt_of_le (fj b U) dd.mod.size) hW jT hW) ?_));rintro _ gi ⟨rfl,cX,z8,l1,oi⟩;obtain ⟨⟨gM,qB,qC⟩,lD⟩:∃ x,x=dn b 2 (l0,true):=⟨_,rfl⟩;rw [←lD] at l1;rw [←lD];dsimp only at l1 ⊢;have HM:=pz hW hW lD.symm;have dI:=(mn _ _ _ cX l1 oi).bu;clear nF lE mn l1 oi;have L3:=r1 lD.symm (by omega);have f11:=dI.k 2;refine ⟨.inr (f11.cell 1 _ rfl),.z rfl (.build (vs:=#[(0,(.int .i32 ((IntKind.i32.wrap hE)):Value)),(1,(.int .i64 gM:Value))]) (v:=.agg #[.int .i32 ((IntKind.i32.wrap hE)),.int .i64 gM]) rfl (fun _=>by kernel_rfl)) (.ac rfl (.buildSlice [(.agg #[.int .i32 ((IntKind.i32.wrap hE)),.int .i64 gM]:Value)] Tryz.underlying219 dY rfl rfl rfl k_ fun hA c8 dV ck i1 fZ=>have b6:=ak.eP (enc:=eg) fZ ([(bm.mk ((IntKind.i32.wrap hE)) gM)]:List bm) 1 rfl rfl (by unfold maxLen; omega);have dK:=(dI.iD dV ck i1 b6).c6;have f12:=dK.k 2;⟨.inr (f12.cell 1 _ rfl),?_⟩))⟩;obtain ⟨g2,f13,dG,bw⟩:=dK.bU (i:=3) rfl;have f14:=dK.bl (i:=4) (k:=0) rfl rfl;refine .ac rfl (.append f13 Tryz.underlying219 dY rfl j' tB rfl rfl (f14) ol gA fun v1 g1 j4 b7 fG cf uh=>have ds:=(bw _ _ _ _ fG b7 cf).c6;have f15:=ds.k 2;⟨.inr (f15.cell 1 _ rfl),?_⟩);clear cf;refine .z rfl (.fieldAddr vo rfl) ?_;obtain ⟨g3,f16,e1,cB⟩:=ds.bU (i:=3) rfl;obtain ⟨br,bs,ej⟩:=f16.shape;subst ej;exact .ac rfl (.store ki rfl rfl rfl rfl rfl f15 dx fun lC hV D3 oj=>have fs:=(ds.cL (cs':=[.bool aN,(.slice br ((es++[(bm.mk ((IntKind.i32.wrap hE)) gM)])).length bs)]) (i:=2) rfl hV oj).c6;⟨.inl rfl,.nil (have eW:=(fs.aN [0,1,4] 2 3 (by rfl) k_).bu;have fR:ar (fun _=>False) F w0 lC [az jg [dy,.int .i64 qB,.bool qC] 217,az aG [.bool false,.slice none 0 0] 221,ff eg [((.slice (some ⟨c8,0,none⟩) 1 1),[(bm.mk ((IntKind.i32.wrap hE)) gM)])],xL 221 233 bn aN ((es++[(bm.mk ((IntKind.i32.wrap hE)) gM)]))]:=eW.hJ (.slice br ((es++[(bm.mk ((IntKind.i32.wrap hE)) gM)])).length bs) (i:=3) rfl;.go 2 rfl (.z (.bZ (((k+1:Nat):Int)) rfl rfl hW) (have fB:=(fR.dj [0,1,3] (by rfl) k_).dM;.ae 2 rfl ((bV _ _ _ ⟨(qB:Int),(qC:Bool),(k+1:Nat),((es++[(bm.mk ((IntKind.i32.wrap hE)) gM)]):List bm),rfl,rfl,fB,HL,yj,yj,(by first|(simp only [List.length_append,List.length_cons,List.length_nil]; omega)|(exfalso; omega))⟩ hW).sub ⟨rfl,rfl,rfl,rfl,rfl,trivial⟩))))⟩)
     refine .go 1 rfl (.ev (.gt rfl rfl) fun c8 ck=>.go 2 rfl (.z (.fieldAddr qm rfl) (.ac (.store fW rfl rfl rfl rfl rfl f7 dx fun eE cF gL eT=>?_))));have cg:=(bF.cL (cs':=[dy,.int .i64 l0,.bool c8]) (i:=0) rfl cF eT).dM;obtain ⟨e2,cz⟩:=cg.iO (i:=2) rfl;change ar (fun _=>False) F w0 eE [az jg [dy,.int .i64 l0,.bool c8] 217,az aG [.bool false,.slice none 0 0] 221,bA [az bn [.bool aN,e2] 221,bb eg 233 2 e2 es]] at cz;have cS:=(cz.un 2 rfl [0,1] (by rfl) k_).bu;refine .ae 1 rfl (fx (fun i=>Nat.beq i 5 || Nat.beq i 7 || Nat.beq i 8 || Nat.beq i 10) 10 (fun ah=>Row ah bn 1 [e2]) mixed (by kernel_rfl) fun eO cG=>have dd:=cS.ext cG;have f8:=dd.k 2;⟨(f8.cell 1 _ rfl),?_⟩);rw [show List.range' 0 (Array.size _)=[0,1,2,3,4,5,6,7,8,9,10] from rfl];refine .z rfl (.fieldAddr vo rfl) (.z rfl (.cT ki rfl (fun _ an=>an)) (.gd 1 rfl (.z rfl (.rK (by kernel_rfl) Tryz.underlying21 rfl) ?_)));have f10:=dd.out U cC;obtain ⟨z7,nF,lE,mn⟩:=dd.act (i:=0) rfl;refine .gd 1 rfl (.ac rfl (.aE vp rfl (vx (w0:=eO) (G:=G) l0 c8 2 nF (fun b U=>(lE b U).2) f10 (fun b U ad=>by have:=(lE b ad).1.1; rcases this with h|h; exact cC b U h; have:=fj b U; omega) (fun b U=>Nat.lt_of_lt_of_le (fj b U) dd.mod.size) hW jT hW) ?_));rintro _ gi ⟨rfl,cX,z8,l1,oi⟩;obtain ⟨⟨gM,qB,qC⟩,lD⟩:∃ x,x=dn b 2 (l0,c8):=⟨_,rfl⟩;rw [←lD] at l1;rw [←lD];dsimp only at l1 ⊢;have HM:=pz (by omega) (by omega) lD.symm;have dI:=(mn _ _ _ cX l1 oi).bu;clear nF lE mn l1 oi;have L3:=r1 lD.symm (by omega);have f11:=dI.k 2;refine ⟨.inr (f11.cell 1 _ rfl),.z rfl (.build (vs:=#[(0,(.int .i32 ((IntKind.i32.wrap hE)):Value)),(1,(.int .i64 gM:Value))]) (v:=.agg #[.int .i32 ((IntKind.i32.wrap hE)),.int .i64 gM]) rfl (fun _=>by kernel_rfl)) (.ac rfl (.buildSlice [(.agg #[.int .i32 ((IntKind.i32.wrap hE)),.int .i64 gM]:Value)] Tryz.underlying219 dY rfl rfl rfl k_ fun hA hy dV c' i1 fZ=>have b6:=ak.eP (enc:=eg) fZ ([(bm.mk ((IntKind.i32.wrap hE)) gM)]:List bm) 1 rfl rfl (by unfold maxLen; omega);have dK:=(dI.iD dV c' i1 b6).c6;have f12:=dK.k 2;⟨.inr (f12.cell 1 _ rfl),?_⟩))⟩;obtain ⟨g2,f13,dG,bw⟩:=dK.bU (i:=3) rfl;have f14:=dK.bl (i:=4) (k:=0) rfl rfl;refine .ac rfl (.append f13 Tryz.underlying219 dY rfl j' tB rfl rfl (f14) ol gA fun v1 g1 j4 b7 fG cf uh=>have ds:=(bw _ _ _ _ fG b7 cf).c6;have f15:=ds.k 2;⟨.inr (f15.cell 1 _ rfl),?_⟩);clear cf;refine .z rfl (.fieldAddr vo rfl) ?_;obtain ⟨g3,f16,e1,cB⟩:=ds.bU (i:=3) rfl;obtain ⟨br,bs,ej⟩:=f16.shape;subst ej;exact .ac rfl (.st ki f15 fun lC hV oj=>have fs:=(ds.cL (cs':=[.bool aN,(.slice br ((es++[(bm.mk ((IntKind.i32.wrap hE)) gM)])).length bs)]) (i:=2) rfl hV oj).c6;⟨.inl rfl,.nil (have eW:=(fs.aN [0,1,4] 2 3 (by rfl) k_).bu;have fR:ar (fun _=>False) F w0 lC [az jg [dy,.int .i64 qB,.bool qC] 217,az aG [.bool false,.slice none 0 0] 221,ff eg [((.slice (some ⟨hy,0,none⟩) 1 1),[(bm.mk ((IntKind.i32.wrap hE)) gM)])],xL 221 233 bn aN ((es++[(bm.mk ((IntKind.i32.wrap hE)) gM)]))]:=eW.hJ (.slice br ((es++[(bm.mk ((IntKind.i32.wrap hE)) gM)])).length bs) (i:=3) rfl;.go 2 rfl (.z (.bZ (((k+1:Nat):Int)) rfl rfl hW) (have fB:=(fR.dj [0,1,3] (by rfl) k_).dM;.ae 2 rfl ((bV _ _ _ ⟨(qB:Int),(qC:Bool),(k+1:Nat),((es++[(bm.mk ((IntKind.i32.wrap hE)) gM)]):List bm),rfl,rfl,fB,HL,yj,yj,(by first|(simp only [List.length_append,List.length_cons,List.length_nil]; omega)|(exfalso; omega))⟩ hW).sub ⟨rfl,rfl,rfl,rfl,rfl,trivial⟩))))⟩)
   refine .ae 2 rfl ?_;obtain ⟨e2,bF⟩:=cq.iO (i:=2) rfl;change ar (fun _=>False) F w0 dv [az jg [dy,.int .i64 gv,.bool kQ] 217,az aG [.bool false,.slice none 0 0] 221,bA [az bn [.bool aN,e2] 221,bb eg 233 2 e2 es]] at bF;have cg:=(bF.un 2 rfl [0,1] (by rfl) k_).bu;obtain ⟨g1,f5,b6,bw⟩:=cg.bU (i:=3) rfl;obtain ⟨br,bs,ej⟩:=f5.shape;refine .go 4 rfl ?_;subst ej;have f6:=cg.k 2;refine .z (.c4 mT rfl (fun _ e=>e▸f6.row) rfl) ?_;have f7:=cg.k 1;refine .ac (.st mT f7 fun en b3 eT=>have cz:=(cg.cL (cs':=[.bool aN,(.slice br es.length bs)]) (i:=1) rfl b3 eT).bu;have f8:=cz.k 1;.ae 1 rfl (xC Tryz.func139 rfl rfl mT f8.row rfl ?_));have cS:=(cz.aN [1,2] 0 3 (by rfl) k_).dM;have dd:=(cS.dj [2] (by rfl) (by decide)).cJ;obtain ⟨cD,c0,c3,cQ⟩:=dd.fin;have ky:i' b rk.toNat (oL,oM)=(es,(gv,kQ)):=(by first|exact km.bad|exact km.fin hW);have kr:kJ b (a,q)=((aN,es),(gv,kQ)):=(by first|exact Gj kn HK nE ky (by assumption));exact aj.mk ⟨_,_,by rw [kr],cD,c0,by rw [kr]; exact c3,cQ⟩
theorem D4 {p:Prop} (h:p:=by intro h; rcases h with h|h; omega; first|exact h (by assumption)|exact absurd (by assumption) h):p:=h
theorem nd {p:Prop} (h:p:=by omega):p:=h
theorem D5 {p:Prop} (h:p:=by first|exact km.bad|exact km.fin (by omega)):p:=h
theorem L4 {p:Prop} (h:p:=by first|exact .inl rfl|exact .inr (by first|assumption|omega)):p:=h
theorem Ut {p:Prop} (h:p:=by assumption):p:=h
theorem afL {w0:World}  {dy:Value} {b:List UInt8} (fp:ak dR w0 (aR 0 w0.heap.size) dy b) (jT:b.length≤4000000) :
 Calls Tryz.prog 95 #[dy] w0 (aj fun aD ai=>∃ ec fF,aD=.tuple #[ec,fF]∧(∃ cn al,gp 0 ai cn al ec ((hj b).1)∧w0.heap.size≤cn∧al≤ai.heap.size)∧fF=.int .i64 ((hj b).2)∧Ext w0 ai):=by
 have L5:=fp.le;have dz:=ar.hR w0;refine bS Tryz.func95 rfl Tryz.ntmps95 rfl (.go 8 rfl (.z (.ca Tryz.underlying120 (fp) rfl) (.z (.il ((((b.length:Nat):Int)-4)) rfl rfl nd) (.go 6 rfl (.aX (.lt rfl rfl) (fun aJ=>?_) fun aJ=>?_)))))
 · exact .ae 7 rfl (bM Tryz.func95 rfl rfl rfl (have hw:hj b=([],9):=(by first|exact Gr nd|exact Bd nd aU);aj.mk ⟨_,_,rfl,⟨w0.heap.size,w0.heap.size,.inl ⟨rfl,by rw [hw]⟩,Nat.le_refl _,dz.mod.size⟩,by rw [hw],dz.mod⟩))
 refine .go 8 rfl (.ac (.aE TL rfl (TV (w0:=w0) (b:=b) ((((b.length:Nat):Int)-4)) (4) fp cu (by first|assumption|omega|(simp only [List.length_append,eM,List.length_cons,List.length_nil]; omega)) (by first|omega|decide)) ?_));rintro _ ai ⟨_,_,rfl,rfl,⟨aN,aK,rfl⟩,au⟩;have cP:=dz.ext au;have:=CZ b ((((b.length:Nat):Int)-4)) 4;have akN:=Q1 (b:=b) (a:=((b.length:Int)-4)) (size:=4) nd;refine .go 9 rfl (.z (.np (by kernel_rfl) Tryz.underlying213 rfl (IntWalk.u32_in _ nd)) ?_);obtain ⟨v1,bK,b6⟩:=ak.part (P:=Tryz.prog) fp Tryz.underlying120 jW nP (0) ((b.length-4)) (.inl ⟨rfl,rfl⟩) (.inr ⟨.i64,(((b.length:Nat):Int)-4),rfl,by omega⟩) nd aU;replace b6:ak dR w0 (aR 0 w0.heap.size) v1 (b.take ((b.length-4))):=(by simpa using b6);refine .go 2 rfl (.z (.ss rfl rfl rfl rfl bK) (have f1:=cP.out b6 (fun _ _ h=>h);.ac (.aE TM rfl (TU (w0:=ai) (b:=(b.take ((b.length-4))))  (f1.b0 (Nat.zero_le _) cP.mod.size) (by (simp only [List.length_take]; omega))) ?_)));rintro _ aZ ⟨rfl,ax⟩;have bx:=cP.ext ax;have:=zt 0 ((b.take ((b.length-4))));change jj ((b.take ((b.length-4)))) < _ at this;refine .lW (.ne rfl rfl) (fun aV=>?_) fun aV=>?_
 · exact .ae 7 rfl (bM Tryz.func95 rfl rfl rfl (have hw:hj b=([],9):=(by first|exact Gr nd|exact Bd nd aU);aj.mk ⟨_,_,rfl,⟨w0.heap.size,w0.heap.size,.inl ⟨rfl,by rw [hw]⟩,Nat.le_refl _,bx.mod.size⟩,by rw [hw],bx.mod⟩))
 refine .go 7 rfl (.aX (.lt rfl rfl) (fun bc=>?_) fun bc=>?_)
 · exact .ae 13 rfl (bM Tryz.func95 rfl rfl rfl (have hw:=Ka (b:=b) cu aU (by first|exact .inl nd|exact .inr Ut);aj.mk ⟨_,_,rfl,⟨w0.heap.size,w0.heap.size,.inl ⟨rfl,by rw [hw]⟩,Nat.le_refl _,bx.mod.size⟩,by rw [hw],bx.mod⟩))
 refine .go 1 rfl ?_;obtain ⟨v2,c_,dG⟩:=ak.part (P:=Tryz.prog) fp Tryz.underlying120 jW nP (0) (4) (.inl ⟨rfl,rfl⟩) (.inr ⟨.i64,4,rfl,by omega⟩) nd aU;replace dG:ak dR w0 (aR 0 w0.heap.size) v2 (b.take 4):=(by simpa using dG);refine .go 1 rfl (.z (.ss rfl rfl rfl rfl c_) (have f2:=bx.out dG (fun _ _ h=>h);.ac (.zo Tryz.underlying120 Tryz.underlying5 Tryz.underlying9 rfl (f2) (.lW (.Ff rfl rfl) (fun cy=>?_) fun cy=>?_))))
 · exact .ae 8 rfl (bM Tryz.func95 rfl rfl rfl (have hw:=Ka (b:=b) cu aU (by first|exact .inl nd|exact .inr Ut);aj.mk ⟨_,_,rfl,⟨w0.heap.size,w0.heap.size,.inl ⟨rfl,by rw [hw]⟩,Nat.le_refl _,bx.mod.size⟩,by rw [hw],bx.mod⟩))
 refine .ae 2 rfl ?_;obtain ⟨v3,fM,e1⟩:=ak.part (P:=Tryz.prog) fp Tryz.underlying120 jW nP (0) ((b.length-4)) (.inl ⟨rfl,rfl⟩) (.inr ⟨.i64,(((b.length:Nat):Int)-4),rfl,by omega⟩) nd aU;replace e1:ak dR w0 (aR 0 w0.heap.size) v3 (b.take ((b.length-4))):=(by simpa using e1);refine .go 6 rfl (.z (.ss rfl rfl rfl rfl fM) ?_);have f3:=bx.out e1 (fun _ _ h=>h);obtain ⟨br,bs,ej⟩:=f3.shape;subst ej;refine .z (.build (vs:=#[(0,(.slice br ((b.take ((b.length-4)))).length bs)),(1,(.int .i64 4:Value))]) (v:=.agg #[(.slice br ((b.take ((b.length-4)))).length bs),.int .i64 4,.bool false]) rfl (fun _=>by kernel_rfl)) (.ac (.box [(.slice br ((b.take ((b.length-4)))).length bs),.int .i64 4,.bool false] rfl rfl fun bz c8 aM ck c9 a1=>?_));have b2:=(bx.dm aM ck a1).cJ;have bP:ar (fun _=>False) (fun _=>False) w0 bz [az c8 [(.slice br ((b.take ((b.length-4)))).length bs),.int .i64 4,.bool false] 217,zy ([]:List cc) []]:=b2.new (Mod.refl _ _) (F:=fun _=>False) (cx.nil) (fun _ h=>h.elim);have f4:=bP.out e1 (fun _ _ h=>h);obtain ⟨jY,et,dZ,d'⟩:=bP.act (i:=0) rfl;refine .go 10 rfl (.ac (.aE vp rfl (vx (w0:=bz) (G:=aR 0 w0.heap.size) 4 false 2 et (fun b U=>(dZ b U).2) f4 (fun b U ad=>by have:=(dZ b ad).1.1; rcases this with h|h; exact h; unfold aR at U; omega) (fun b U=>Nat.lt_of_lt_of_le U.2 bP.mod.size) (by first|omega|assumption|(simp only [List.length_take]; omega)) (by first|omega|(simp only [List.length_take]; omega)) nd) ?_));rintro _ cj ⟨rfl,aW,gb,gV,fu⟩;obtain ⟨⟨o',nb,pR⟩,kn⟩:∃ x,x=dn ((b.take ((b.length-4)))) 2 (4,false):=⟨_,rfl⟩;rw [←kn] at gV;rw [←kn];dsimp only at gV ⊢;have Uq:=pz nd (by first|omega|(simp only [List.length_take]; omega)) kn.symm;have Uu:=r1 kn.symm (by omega);have bo:=(d' _ _ _ aW gV fu).cK;clear et dZ d' gV;have cv:ar (fun _=>False) (fun _=>False) w0 cj [az c8 [(.slice br ((b.take ((b.length-4)))).length bs),.int .i64 nb,.bool pR] 217,zy ([]:List cc) [],bb eR 221 2 (.slice none 0 0) []]:=bo.fU (Mod.refl _ _) Acc.nil (.inl rfl);have cI:=(cv.dj [0,2,1] (by rfl) (by decide)).dM;refine .ae 3 rfl (dU (I:=fun m E W=>∃ (gv:Int) (kQ:Bool) (pS:Value) (aT:List cc) (k:Nat) (N:List bC),E=[(4,.int .i64 ((((b.length:Nat):Int)-4))),(7,ptr c8 0),(8,pS),(42,.int .i64 o'),(43,.int .i64 (((k:Nat):Int)))]∧m=o'.toNat-k∧ar (fun _=>False) (fun _=>False) w0 W [az c8 [(.slice br ((b.take ((b.length-4)))).length bs),.int .i64 gv,.bool kQ] 217,bb eR 221 2 pS aT,zy aT N]∧(qe (b.take (b.length-4)) o'.toNat (nb,pR) k N (gv,kQ))∧(0≤gv∧gv≤(b.take (b.length-4)).length)∧((k:Int)≤o')∧(N.length≤k)∧(∀ x∈N,x.2.length≤1000000)∧(aT.length≤k)) ?_ ?_)
 · refine ⟨_,_,⟨(nb:Int),(pR:Bool),(.slice none 0 0:Value),([]:List cc),(0:Nat),([]:List bC),rfl,rfl,cI,(by exact qe.start _ _ _),nd,nd,(by simp),(by (intro x ad; cases ad)),(by simp)⟩,⟨rfl,rfl,rfl,rfl,rfl,trivial⟩⟩
 · rintro _ _ cM ⟨gv,kQ,pS,aT,k,N,rfl,rfl,bR,km,vy,n4,og,gZ,Hu⟩ bV;have akO:=Uu;refine .go 2 rfl (.aX (.lt rfl rfl) (fun c'=>?_) fun c'=>?_)
   · refine .go 11 rfl (have f5:=bR.k 0;.a_ qm fW f5 (.ae 1 rfl ?_));cases kQ
     case true =>
      exact .go 7 rfl (.a_ qm fW f5 (.ae 15 rfl (bM Tryz.func95 rfl rfl rfl (have hw:=Gs (b:=b) cu aU D4 kn D5 L4;aj.mk ⟨_,_,rfl,⟨w0.heap.size,w0.heap.size,.inl ⟨rfl,by rw [hw]⟩,Nat.le_refl _,bR.mod.size⟩,by rw [hw],bR.mod⟩))))
     have f6:=bR.out e1 (fun _ _ h=>h);obtain ⟨z6,oh,mm,nc⟩:=bR.act (i:=0) rfl;refine .go 5 rfl (.ac (.aE aem rfl (afI (w0:=cM) (G:=aR 0 w0.heap.size) gv false oh (fun b U=>(mm b U).2) f6 (fun b U ad=>by have:=(mm b ad).1.1; rcases this with h|h; exact h; unfold aR at U; omega) (fun b U=>Nat.lt_of_lt_of_le U.2 bR.mod.size) (by first|omega|assumption|(simp only [List.length_take]; omega)) (by first|omega|(simp only [List.length_take]; omega))) ?_));rintro _ de ⟨dN,dO,rfl,bh,cO,gC,hD⟩;have ui:=aau ((b.take ((b.length-4)))) (gv,false);obtain ⟨⟨⟨BZ,oN⟩,⟨oL,oM⟩⟩,iS⟩:∃ x,x=kJ ((b.take ((b.length-4)))) (gv,false):=⟨_,rfl⟩;rw [←iS] at gC ui;rw [←iS];dsimp only at gC ui ⊢;have oD:=aax (by first|omega|(simp only [List.length_take]; omega)) iS;have b8:=(nc _ _ _ bh gC hD).dM;clear oh mm nc gC;have bW:=(b8.un 0 rfl [1,2] (by rfl) (by decide)).bu;refine .ac (.buildSlice [(.agg #[.bool BZ,(.slice dN oN.length dO)]:Value)] Tryz.underlying218 mT rfl rfl rfl (by decide) fun dv h5 bQ dq eY bH=>?_);have f':=ak.eP (enc:=eR) bH ([(cc.mk BZ (cb.mk dN oN.length dO))]:List cc) 1 rfl rfl (by unfold maxLen; omega);have cq:=(bW.iD bQ dq eY f').c6;obtain ⟨g2,f7,hU,bw⟩:=cq.bU (i:=0) rfl;have f8:=cq.bl (i:=4) (k:=0) rfl rfl;refine .ac (.append f7 Tryz.underlying218 mT rfl l9 CQ rfl rfl (f8) ol gA fun v4 g1 en b7 b3 cf gh=>?_);have bF:=(bw _ _ _ _ b3 b7 cf).c6;clear cf;have cg:=(bF.aN [0,2,4] 1 3 (by rfl) (by decide)).bu;have cz:=(cg.ty (zy (aT++[cc.mk BZ (cb.mk dN oN.length dO)]) (N++[(BZ,oN)])) 3 rfl (fun eS bN=>aay rfl rfl rfl bN)).bu;exact .go 4 rfl (.z (.bZ (((k+1:Nat):Int)) rfl rfl nd) (have cS:=(cz.dj [1,0,3] (by rfl) (by decide)).dM;.ae 2 rfl ((bV _ _ _ ⟨(oL:Int),(oM:Bool),(v4:Value),((aT++[(cc.mk BZ (cb.mk dN oN.length dO))]):List cc),(k+1:Nat),((N++[(BZ,oN)]):List bC),rfl,rfl,cS,(by first|exact km.step nd iS|(exfalso; omega)),(by first|assumption|(exfalso; omega)),(by first|omega|(exfalso; omega)),(by first|(simp only [List.length_append,List.length_cons,List.length_nil]; omega)|(exfalso; omega)),(by first|(intro x ad; rcases List.mem_append.1 ad with h|h; exact gZ x h; simp only [List.mem_singleton] at h; subst h; exact Nat.le_trans ui nd)|(exfalso; omega)),(by first|(simp only [List.length_append,List.length_cons,List.length_nil]; omega)|(exfalso; omega))⟩ nd).sub ⟨rfl,rfl,rfl,rfl,rfl,trivial⟩)))
   refine .go 9 rfl (have f5:=bR.k 0;.a_ qm fW f5 (.go 1 rfl ?_));cases kQ
   case true =>
    exact .ae 14 rfl (bM Tryz.func95 rfl rfl rfl (have hw:=Gs (b:=b) cu aU D4 kn D5 L4;aj.mk ⟨_,_,rfl,⟨w0.heap.size,w0.heap.size,.inl ⟨rfl,by rw [hw]⟩,Nat.le_refl _,bR.mod.size⟩,by rw [hw],bR.mod⟩))
   refine .go 2 rfl (.a_ Hd aP f5 (.go 1 rfl (.lW (.ne rfl rfl) (fun dq=>?_) fun dq=>?_)))
   · exact .ae 8 rfl (bM Tryz.func95 rfl rfl rfl (have hw:=Gs (b:=b) cu aU D4 kn D5 L4;aj.mk ⟨_,_,rfl,⟨w0.heap.size,w0.heap.size,.inl ⟨rfl,by rw [hw]⟩,Nat.le_refl _,bR.mod.size⟩,by rw [hw],bR.mod⟩))
   refine .ae 2 rfl ?_;obtain ⟨akP,z_,Uv⟩:=bR.get (i:=2) rfl;obtain ⟨Um,DZ,D0,_⟩:=bR.bU (i:=1) rfl;refine .go 5 rfl (.ac (.aE aen rfl (afy (w0:=cM) (G:=fun b=>b < cM.heap.size) (N:=N) (DZ.bl.mono fun b h=>Nat.lt_of_lt_of_le h.2 D0) (iC.mono z_ Uv) (fun _ h=>h) nd gZ) ?_));rintro DX de ⟨⟨LK,wU,n9,BU,BV⟩,bh⟩;have bW:ar (fun _=>False) (fun _=>False) w0 de [az c8 [(.slice br ((b.take ((b.length-4)))).length bs),.int .i64 gv,.bool false] 217,bb eR 221 2 pS aT,zy aT N,vf DX (kd N)]:=bR.JZ bh n9 BU BV;obtain ⟨afD,F0,LW,Un⟩:=bW.QV (i:=3) rfl;refine .go 6 rfl ?_;rcases LW with ⟨ju,qq⟩|⟨kO,_,_,ju,qq,_⟩
   · subst ju;exact .z (.nr Tryz.underlying99 rfl rfl) (.ae 7 rfl (bM Tryz.func95 rfl rfl rfl (have hw:=Rl (b:=b) cu aU D4 kn D5 (by intro h; rcases h with h|h; exact absurd h (by decide); omega) qq;aj.mk ⟨_,_,rfl,⟨w0.heap.size,w0.heap.size,.inl ⟨rfl,by rw [hw]⟩,Nat.le_refl _,bW.mod.size⟩,by rw [hw],bW.mod⟩)))
   · subst ju;refine .z (.nr Tryz.underlying99 rfl rfl) (.ae 9 rfl (bM Tryz.func95 rfl rfl rfl ?_));have hw:=Kb (b:=b) cu aU D4 kn D5 (by intro h; rcases h with h|h; exact absurd h (by decide); omega) qq;obtain ⟨LX,D1,LY,LZ,L0⟩:=bW.Rg (i:=3) rfl qq;exact aj.mk ⟨_,_,rfl,⟨LX,D1,by rw [hw]; exact LY,LZ,L0⟩,by rw [hw],bW.mod⟩
end Go.Proofs
namespace Go.Proofs
open Go.aA Go.ab
theorem kz {p:Prop} (h:p:=by omega):p:=h
theorem k' {p:Prop} (h:p:=by assumption):p:=h
theorem Uw {p:Prop} (h:p:=by first|exact (kH.app (by rw [qU jq] at jK; exact jK)).2 (by assumption)|(exfalso; omega)):p:=h
theorem Ux {p:Prop} (h:p:=by rw [qU jq] at jK; exact jK):p:=h
theorem afM:∀ (d:Nat) {w0:World} {h_:Value} {fX ew:Nat} {s:ch} {cr:Type} {mN:FuncId} {first cap:List Value} {B:Nat} {Inv:cr→(Nat→Prop)→World→Prop} {ok:cr→ag→Prop} {f:cr→ag→cr×Bool} (n:Int) (ahead:ag) (x:List ag×List bm) (eo:cr) (bB:Nat→Prop) (ox:gp 0 w0 fX ew h_ (fa s)) (ot:ew≤B) (kL:∀ y∈s,nq s y∧fD y.1∧Deep 12 y.1) (aI:bp n) (oD:nodeAt (fa s) n=(iB x.1,x.2)) (an:nq s x) (aO:fD x.1) (hd:Deep d x.1) (dr:s.length≤1000000) (afN:ahead.length+4*d≤1000000) (av:JD Tryz.prog mN first cap B Inv ok f) (D6:Inv eo bB w0) (eK:B≤w0.heap.size) (c7:kH ok f eo (x.1.map (ahead++·))),
 Calls Tryz.prog 107 #[h_,.int .i64 n,aH ahead,.func (.func mN) first.toArray cap.toArray] w0 (aj fun aD ai=>aD=.bool (e5 f eo (x.1.map (ahead++·))).2∧Mod bB w0 ai∧∃ gb,Inv (e5 f eo (x.1.map (ahead++·))).1 gb ai∧∀ b,gb b→bB b∨w0.heap.size≤b):=by
 intro d
 induction d using Nat.strongRecOn with
 | _ d n' =>
 intro w0 h_ fX ew s cr mN first cap B Inv ok f n ahead x eo bB ox ot kL aI oD an aO hd dr afN av D6 eK c7
 have q1:(fa s).length≤1000000:=(by rw [tF]; exact dr);have akQ:=(cx.get an).1;rw [PX aO] at c7 ⊢;generalize oO:(if iB x.1=true then [ahead] else [])++rU ahead x.1 0=Uy at c7 ⊢;have L6:∀ b,bB b→bB b∨w0.heap.size≤b:=fun b U=>.inl U
 have xk:Ext w0 w0:=Mod.refl _ _;have ba:Mod bB w0 w0:=Mod.refl _ _;refine bS Tryz.func107 rfl Tryz.ntmps107 rfl (.go 8 rfl (.ac (.aE Lb rfl (Ls (w0:=w0) (g:=(fa s)) (n) ox kz cu aU) ?_)));rintro _ ai ⟨⟨iI,Ua,rfl,kk,q'⟩,au⟩;rw [oD] at kk q';dsimp only at kk q';obtain ⟨br,bs,ej⟩:=q'.shape;subst ej;have f1:=ox.ext au;have bf:=ba.ext au;have aJ:=xk.ext au;have dW:=au.size;have jl:=q'.le;refine .ac (.alloc iQ fun aZ aG ax aK c9 a1=>have f2:=f1.ext ax;have f3:=q'.ext ax;have bk:=bf.ext ax;have aV:=aJ.ext ax;have e7:=ax.size;.ac (.st iQ a1 fun bz aM bH=>?_));replace bH:ez bz aG [.bool iI,(.slice br x.2.length bs)] 238:=bH;have f4:=f2.bt aM (by omega);have f5:=f3.bt aM (by omega);have bD:=zk.hq bk aM (by omega);have bc:=Ext.hq aV aM (by omega);have hx:=aM.size;refine .go 4 rfl (.a_ DG fW bH (.go 1 rfl ?_));cases iI
 case true =>
  replace kk:=kk.symm;rw [if_pos (by assumption)] at oO;rw [←oO] at c7;refine .go 2 rfl (.ac (.call (first:=first) (cap:=cap) av.cl rfl rfl (av.call _ _ _ _ (av.ext _ _ _ _ D6 bc) c7.1) ?_));rintro _ cj ⟨rfl,aW,gb,vA,fu⟩;have D7:=wc.of av D6;have f6:=f4.sB aW D7 (by omega);have f7:=f5.sB aW D7 (by omega);have f8:=bH.keep aW (fun ad=>by have:=(av.CS _ _ _ D6 _ ad).2; omega);have ek:=zk.JE bD aW L6;have je:=aW.size;have cy:Ext cj cj:=Mod.refl _ _;have D8:∀ b,gb b→bB b∨w0.heap.size≤b:=fun b U=>(fu b U).elim (L6 b) (fun h=>.inr kz)
  generalize ck:(f eo ahead).2=aN;replace ck:=ck.symm;cases aN
  case true =>
   replace ck:=ck.symm;refine .z (.not rfl) (.go 7 rfl (.a_ sR ki f8 (.z (.ca Tryz.underlying219 (f7) rfl) (.ae 3 rfl (dU (I:=fun m E W=>∃ (k:Nat) (dt:cr) (uj:Nat→Prop),E=[(0,h_),(2,aH ahead),(3,.func (.func mN) first.toArray cap.toArray),(24,(.slice br x.2.length bs)),(25,.int .i64 (((x.2.length:Nat):Int))),(26,.int .i64 (((k:Nat):Int)))]∧m=x.2.length-k∧Mod bB w0 W∧cj.heap.size≤W.heap.size∧gp 0 W fX ew h_ ((fa s))∧ak eg W (aR fX ew) ((.slice br x.2.length bs)) x.2∧(Inv dt uj W)∧(∀ b,uj b→bB b∨w0.heap.size≤b)∧(e5 f eo Uy=e5 f dt (rU ahead x.1 k))∧(kH ok f dt (rU ahead x.1 k))) ?_ ?_)))))
   · refine ⟨_,_,⟨(0:Nat),((f eo ahead).1:cr),(gb:Nat→Prop),rfl,rfl,ek,Nat.le_refl _,f6,f7,(vA),(D8),(by first|(rw [←oO,if_neg (by simp [*])]; rfl)|(rw [←oO]; exact JF k')),(by first|(rw [←oO,if_neg (by simp [*])] at c7; exact c7)|exact c7.2 k')⟩,⟨rfl,rfl,rfl,rfl,rfl,rfl,trivial⟩⟩
   · rintro _ _ cM ⟨k,dt,uj,rfl,rfl,fq,lv,f9,f10,uk,z',fr,jK⟩ bV;have c':Ext cM cM:=Mod.refl _ _;refine .go 2 rfl (.aX (.lt rfl rfl) (fun dq=>?_) fun dq=>?_)
     · refine .ae 2 rfl ?_;obtain ⟨aw,bj,fE,a7,bK,b6,iR,cV⟩:=ak.ft (P:=Tryz.prog) f10 Tryz.underlying219 dY j' (k:=.i64) (n:=((k:Nat):Int)) (k) kz aU;refine .go 6 rfl (.z (.indexAddr rfl rfl bK) (.z (.c4 dY rfl (fun _ e=>e▸cV) rfl) ?_));obtain ⟨fv,wW,oN,jq,kv,o4,mM,im,D9⟩:=zl an aO a7;obtain ⟨tN,rfl,r5⟩:=A1 aO hd jq;have afO:=(List.getElem?_eq_some_iff.1 mM).1;have nf:eX aw.rune=du fv.1:=(by rw [kv]; exact xv im);have f':=we fv.1;have hU:(eX aw.rune).length≤4:=(by rw [nf]; exact f');refine .ac (.alloc dY fun de cR bh e8 gh cE=>have f11:=f9.ext bh;have f12:=f10.ext bh;have h9:=fq.ext bh;have gn:=c'.ext bh;have o6:=bh.size;.ac (.store dY rfl rfl rfl rfl rfl cE dx fun dv bQ gT da=>?_));replace da:ez dv cR [.int .i32 aw.rune,.int .i64 aw.to] 233:=da;have f13:=f11.bt bQ (by omega);have f14:=f12.bt bQ (by omega);have jm:=zk.hq h9 bQ (by omega);have mE:=Ext.hq gn bQ (by omega);have qp:=bQ.size;refine .go 4 rfl (.a_ pL aP da (.go 1 rfl (.a_ pK hn da (.z (.uQ (by kernel_rfl) Tryz.underlying9 rfl) (.z (.tr rfl rfl (by first|omega|(simp only [List.length_append]; omega)|(simp only [List.length_append,List.length_cons,List.length_nil]; omega))) (.go 1 rfl (.ac (.aE K' rfl (n' tN kz (aw.to) ((ahead++(eX aw.rune))) (fv.2,oN) dt uj f13 ot kL kz (by rw [o4]; exact zm mM) (kL _ (List.mem_of_getElem? mM)).1 (kL _ (List.mem_of_getElem? mM)).2.1 r5 dr (by rw [nf]; simp only [List.length_append]; omega) av (av.ext _ _ _ _ uk mE) kz (by rw [nf]; exact (kH.app Ux).1)) ?_))))))));rintro _ en ⟨rfl,b3,cO,D_,hD⟩;have Uz:=wc.of av uk;have f15:=f13.sB b3 Uz (by omega);have f16:=f14.sB b3 Uz (by omega);have mW:=zk.JE jm b3 z';have wL:=b3.size;have BO:Ext en en:=Mod.refl _ _;have UA:∀ b,cO b→bB b∨w0.heap.size≤b:=fun b U=>(hD b U).elim (z' b) (fun h=>.inr kz)
       rw [nf] at D_ ⊢;generalize mX:(e5 f dt (fv.2.map ((ahead++du fv.1)++·))).2=c8;replace mX:=mX.symm;cases c8
       case true =>
        replace mX:=mX.symm;exact .z (.not rfl) (.go 5 rfl (.z (.bZ (((k+1:Nat):Int)) rfl rfl kz) (.ae 2 rfl ((bV _ _ _ ⟨(k+1:Nat),((e5 f dt (fv.2.map ((ahead++du fv.1)++·))).1:cr),(cO:Nat→Prop),rfl,rfl,mW,kz,f15,f16,(D_),(UA),(by first|exact PY fr (qU jq) k'|(exfalso; omega)),Uw⟩ kz).sub ⟨rfl,rfl,rfl,rfl,rfl,rfl,trivial⟩))))
       replace mX:=mX.symm;refine .z (.not rfl) (.ae 6 rfl (aL Tryz.func107 rfl rfl (aj.mk ⟨congrArg Value.bool ?_,mW,cO,?_,UA⟩)))
       · first|(rw [u7 fr (qU jq) k']; symm; assumption)|(rw [fr,u6 kz]<;>rfl)|(rw [←oO,tE k']<;>rfl)
       · first|(rw [u7 fr (qU jq) k']; exact D_)|(rw [fr,u6 kz]; exact D_)|(rw [←oO,tE k']; exact D_)
     refine .ae 8 rfl (aL Tryz.func107 rfl rfl (aj.mk ⟨congrArg Value.bool ?_,fq,uj,?_,z'⟩))
     · first|(rw [u7 fr (qU jq) k']; symm; assumption)|(rw [fr,u6 kz]<;>rfl)|(rw [←oO,tE k']<;>rfl)
     · first|(rw [u7 fr (qU jq) k']; exact uk)|(rw [fr,u6 kz]; exact uk)|(rw [←oO,tE k']; exact uk)
  replace ck:=ck.symm;refine .z (.not rfl) (.ae 7 rfl (aL Tryz.func107 rfl rfl (aj.mk ⟨congrArg Value.bool ?_,ek,gb,?_,D8⟩)))
  · first|(rw [u7 fr (qU jq) k']; symm; assumption)|(rw [fr,u6 kz]<;>rfl)|(rw [←oO,tE k']<;>rfl)
  · first|(rw [u7 fr (qU jq) k']; exact vA)|(rw [fr,u6 kz]; exact vA)|(rw [←oO,tE k']; exact vA)
 replace kk:=kk.symm;refine .go 11 rfl (.a_ sR ki bH (.z (.ca Tryz.underlying219 (f5) rfl) (.ae 3 rfl (dU (I:=fun m E W=>∃ (k:Nat) (dt:cr) (uj:Nat→Prop),E=[(0,h_),(2,aH ahead),(3,.func (.func mN) first.toArray cap.toArray),(24,(.slice br x.2.length bs)),(25,.int .i64 (((x.2.length:Nat):Int))),(26,.int .i64 (((k:Nat):Int)))]∧m=x.2.length-k∧Mod bB w0 W∧bz.heap.size≤W.heap.size∧gp 0 W fX ew h_ ((fa s))∧ak eg W (aR fX ew) ((.slice br x.2.length bs)) x.2∧(Inv dt uj W)∧(∀ b,uj b→bB b∨w0.heap.size≤b)∧(e5 f eo Uy=e5 f dt (rU ahead x.1 k))∧(kH ok f dt (rU ahead x.1 k))) ?_ ?_))))
 · refine ⟨_,_,⟨(0:Nat),(eo:cr),(bB:Nat→Prop),rfl,rfl,bD,Nat.le_refl _,f4,f5,((av.ext _ _ _ _ D6 bc)),(L6),(by first|(rw [←oO,if_neg (by simp [*])]; rfl)|(rw [←oO]; exact JF k')),(by first|(rw [←oO,if_neg (by simp [*])] at c7; exact c7)|exact c7.2 k')⟩,⟨rfl,rfl,rfl,rfl,rfl,rfl,trivial⟩⟩
 · rintro _ _ cj ⟨k,dt,uj,rfl,rfl,ek,je,f6,f7,uk,z',fr,jK⟩ bV;have cy:Ext cj cj:=Mod.refl _ _;refine .go 2 rfl (.aX (.lt rfl rfl) (fun ck=>?_) fun ck=>?_)
   · refine .ae 2 rfl ?_;obtain ⟨aw,bn,fE,a7,bK,b6,iR,cV⟩:=ak.ft (P:=Tryz.prog) f7 Tryz.underlying219 dY j' (k:=.i64) (n:=((k:Nat):Int)) (k) kz aU;refine .go 6 rfl (.z (.indexAddr rfl rfl bK) (.z (.c4 dY rfl (fun _ e=>e▸cV) rfl) ?_));obtain ⟨fv,wW,oN,jq,kv,o4,mM,im,D9⟩:=zl an aO a7;obtain ⟨tN,rfl,r5⟩:=A1 aO hd jq;have afO:=(List.getElem?_eq_some_iff.1 mM).1;have nf:eX aw.rune=du fv.1:=(by rw [kv]; exact xv im);have f':=we fv.1;have hU:(eX aw.rune).length≤4:=(by rw [nf]; exact f');refine .ac (.alloc dY fun cM bj aW c' gh cE=>have f8:=f6.ext aW;have f9:=f7.ext aW;have fq:=ek.ext aW;have dq:=cy.ext aW;have lv:=aW.size;.ac (.st dY cE fun de bh da=>?_));replace da:ez de bj [.int .i32 aw.rune,.int .i64 aw.to] 233:=da;have f10:=f8.bt bh (by omega);have f11:=f9.bt bh (by omega);have h9:=zk.hq fq bh (by omega);have e8:=Ext.hq dq bh (by omega);have o6:=bh.size;refine .go 4 rfl (.a_ pL aP da (.go 1 rfl (.a_ pK hn da (.z (.uQ (by kernel_rfl) Tryz.underlying9 rfl) (.z (.tr rfl rfl (by first|omega|(simp only [List.length_append]; omega)|(simp only [List.length_append,List.length_cons,List.length_nil]; omega))) (.go 1 rfl (.ac (.aE K' rfl (n' tN kz (aw.to) ((ahead++(eX aw.rune))) (fv.2,oN) dt uj f10 ot kL kz (by rw [o4]; exact zm mM) (kL _ (List.mem_of_getElem? mM)).1 (kL _ (List.mem_of_getElem? mM)).2.1 r5 dr (by rw [nf]; simp only [List.length_append]; omega) av (av.ext _ _ _ _ uk e8) kz (by rw [nf]; exact (kH.app Ux).1)) ?_))))))));rintro _ dv ⟨rfl,bQ,gb,vA,fu⟩;have D7:=wc.of av uk;have f12:=f10.sB bQ D7 (by omega);have f13:=f11.sB bQ D7 (by omega);have jm:=zk.JE h9 bQ z';have qp:=bQ.size;have mE:Ext dv dv:=Mod.refl _ _;have D8:∀ b,gb b→bB b∨w0.heap.size≤b:=fun b U=>(fu b U).elim (z' b) (fun h=>.inr kz)
     rw [nf] at vA ⊢;generalize gn:(e5 f dt (fv.2.map ((ahead++du fv.1)++·))).2=cR;replace gn:=gn.symm;cases cR
     case true =>
      replace gn:=gn.symm;exact .z (.not rfl) (.go 5 rfl (.z (.bZ (((k+1:Nat):Int)) rfl rfl kz) (.ae 2 rfl ((bV _ _ _ ⟨(k+1:Nat),((e5 f dt (fv.2.map ((ahead++du fv.1)++·))).1:cr),(gb:Nat→Prop),rfl,rfl,jm,kz,f12,f13,(vA),(D8),(by first|exact PY fr (qU jq) k'|(exfalso; omega)),Uw⟩ kz).sub ⟨rfl,rfl,rfl,rfl,rfl,rfl,trivial⟩))))
     replace gn:=gn.symm;refine .z (.not rfl) (.ae 6 rfl (aL Tryz.func107 rfl rfl (aj.mk ⟨congrArg Value.bool ?_,jm,gb,?_,D8⟩)))
     · first|(rw [u7 fr (qU jq) k']; symm; assumption)|(rw [fr,u6 kz]<;>rfl)|(rw [←oO,tE k']<;>rfl)
     · first|(rw [u7 fr (qU jq) k']; exact vA)|(rw [fr,u6 kz]; exact vA)|(rw [←oO,tE k']; exact vA)
   refine .ae 8 rfl (aL Tryz.func107 rfl rfl (aj.mk ⟨congrArg Value.bool ?_,ek,uj,?_,z'⟩))
   · first|(rw [u7 fr (qU jq) k']; symm; assumption)|(rw [fr,u6 kz]<;>rfl)|(rw [←oO,tE k']<;>rfl)
   · first|(rw [u7 fr (qU jq) k']; exact uk)|(rw [fr,u6 kz]; exact uk)|(rw [←oO,tE k']; exact uk)
theorem afP {w0:World} {eu D':Nat} {yk:Value} {l:List ag} (x:ag)  (U:ez w0 eu [yk] 23) (ao:Acc cp 9 1 w0 D' yk l) (cA:eu+1≠D') (Hi:l.length≤1000000) :
 Calls Tryz.prog 108 #[aH x,ptr eu 0] w0 (aj fun aD ai=>aD=.bool true∧Mod (AY (eu+1) D') w0 ai∧∃ v2 g2,ez ai eu [v2] 23∧Acc cp 9 1 ai g2 v2 (l++[x])∧(g2=D'∨w0.heap.size < g2)):=by
 have fg:=ao.le;have Uv:=ao.lt;have akR:=U.lt;have ba:Mod (AY (eu+1) D') w0 w0:=Mod.refl _ _;refine bS Tryz.func108 rfl Tryz.ntmps108 rfl (.go 6 rfl (.z (.fV n3 U) (.go 1 rfl (.ac (.buildSlice [aH x] Tryz.underlying23 dp rfl rfl rfl (by decide) fun ai aG au aJ c9 a1=>have b6:=ao.lt;have f1:=ao.ext au;have f2:=U.ext au;have bf:=ba.ext au;have dW:=au.size;have dG:=ak.eP (enc:=cp) a1 ([x]:List ag) 1 rfl rfl (by unfold maxLen; omega);have e1:=f1.lt;.ac (.append f1 Tryz.underlying23 dp rfl hr xm rfl rfl (dG) ol gA fun v1 g1 aZ b7 ax cf eY=>?_))))));have f':=f1.lt;have f3:=f2.bt ax (by omega);have bk:=Mod.PM bf ax (by omega);have e7:=ax.size;obtain ⟨br,bs,ej⟩:=b7.shape;subst ej;refine .ac (.st n3 f3 fun bz aM bH=>?_);replace bH:ez bz eu [(.slice br ((l++[x])).length bs)] 23:=bH;have hU:=b7.lt;have f5:=b7.bt aM (by omega);have bD:=Mod.PM bk aM (by omega);have hx:=aM.size;exact .ae 5 rfl (aL Tryz.func108 rfl rfl (aj.mk ⟨congrArg Value.bool (by rfl),bD,_,_,bH,Acc.cast f5 (by rfl),by omega⟩))
theorem afQ (eu B:Nat):JD Tryz.prog 108 [] [ptr eu 0] B (fun s F w=>u9 23 9 eu B s F w) (fun s _=>s.length≤1000000) (fun (s:List ag) x=>(s++[x],true)) where
 cl:=by kernel_rfl
 ext:=fun s F w ah h hm=>h.ext hm
 CS:=fun s F w h=>h.CS
 call:=fun s F w x h c7=>by
  obtain ⟨v,g,U,ao,cA,eK,aO,bO⟩:=h
  refine Calls.mono (afP x U ao cA c7) ?_
  rintro e ah ⟨aD,rfl,rfl,hm,v2,g2,bw,cB,d_⟩
  refine ⟨_,rfl,rfl,hm.weaken (fun b xn _=>(bO b).2 (by unfold AY at xn; omega)),?_⟩
  exact u9.go bO eK aO cA U.lt bw cB d_
theorem afR {w0:World} {h_:Value} {fX ew:Nat} {N:List bC} {s:ch} {words:List ag}  (ox:gp 0 w0 fX ew h_ N) (ot:ew≤w0.heap.size) (c7:sC N s words) (pO:words.length≤1000000) :
 Calls Tryz.prog 62 #[h_] w0 (aj fun aD ai=>(∃ cZ,Acc cp 9 1 ai cZ aD (words)∧(cZ=0∨w0.heap.size < cZ))∧Ext w0 ai):=by
 obtain ⟨rfl,⟨rZ,oD,an⟩,L7,HN,kL,dr,gZ⟩:=c7;have ba:Ext w0 w0:=Mod.refl _ _;refine bS Tryz.func62 rfl Tryz.ntmps62 rfl (.go 6 rfl (.ac (.alloc n3 fun ai aG au aJ c9 a1=>have f1:=ox.ext au;have bf:=ba.ext au;have dW:=au.size;.go 4 rfl (.z (.makeFunc (first:=[]) (cap:=[ptr aG 0]) rfl rfl) (have wU:u9 23 9 aG aG [] (fun b=>b=aG∨b+1=0) ai:=⟨_,0,a1,Acc.nil,by omega,Nat.le_refl _,.inl rfl,fun b=>Iff.rfl⟩;.ac (.aE K' rfl (afM 12 0 [] (words,rZ) ([]:List ag) _ f1 (by omega) kL (by omega) oD an L7 HN dr (by simp) (afQ aG aG) wU (by omega) (P1 1000000 _ _ (by simp; omega))) ?_))))));rintro _ aZ ⟨rfl,ax,gb,⟨v1,g1,aK,b7,s7,gV,akS,fu⟩,hD⟩;simp only [List.nil_append,List.map_id',P0] at b7;replace ax:Mod (b5 (aG+1)) ai aZ:=ax.weaken (fun b U _=>by unfold b5; rcases U with U|U<;>omega);have b6:=a1.lt;have bk:=Ext.hq bf ax (by omega);have e7:=ax.size;exact .go 3 rfl (.z (.fV n3 aK) (.ae 2 rfl (aL Tryz.func62 rfl rfl (aj.mk ⟨⟨_,b7,by omega⟩,bk⟩))))
end Go.Proofs
namespace Go.Proofs
open Go.aA Go.ab
theorem Aa:sN Tryz.prog 172 tQ:=⟨fun e a w=>by kernel_rfl,fun a=>by simp [tQ,Instr.sameBits],⟨_,Tryz.underlying172,fun a b=>rfl⟩,fun a b w=>(ad7 a b w)⟩
theorem UB {w0:World} {F:Nat→Prop} {fS:Nat} {q:List bI} (bg:(lV (R:=fun _=>False) 176 172 fS q).p F w0) (bO:∀ b,F b→b < w0.heap.size) :
 Calls Tryz.prog 96 #[ptr fS 0] w0 (aj fun aD ai=>aD=.int .i64 (q.length:Int)∧Ext w0 ai):=by
 obtain ⟨⟨Bw,pH,m⟩,dL,fe,n5,xP,akT⟩:=bg;have xk:=(n5 0 _ rfl).1;obtain ⟨g0,UC,ml⟩:=n5 1 _ rfl;have afS:=(n5 2 _ rfl).1;have zX:=UC.bl.b0 (Nat.zero_le _) UC.lt;have dz:=ar.hR w0;have hle:=zX.le;have L8:(q.map bI.pl).length=q.length:=List.length_map ..;change ez w0 fS [Bw,.map (some pH)] 176 at xk;change ak n0 w0 (aR 0 w0.heap.size) Bw (q.map bI.pl) at zX;change jV tQ q3 w0 pH m at afS;change k6 m q at dL;exact bS Tryz.func96 rfl Tryz.ntmps96 rfl (.go 8 rfl (.z (.nr Tryz.underlying93 rfl rfl) (.go 7 rfl (.z (.fieldAddr BI rfl) (have bK:=xk.row.sub 0 1 dx;.z (.dT BD bK) (.z (.ca Tryz.underlying173 (zX) rfl) (.ae 2 rfl (aL Tryz.func96 rfl rfl (aj.mk ⟨(congrArg (Value.int .i64) (by omega)),dz.mod⟩)))))))))
theorem afT {w0:World} :
 Calls Tryz.prog 93 #[] w0 (aj fun aD ai=>∃ fS cO,aD=ptr fS 0∧Ext w0 ai∧(lV (R:=fun _=>False) 176 172 fS []).p cO ai∧∀ b,cO b→b < ai.heap.size∧w0.heap.size≤b):=by
 have dz:=ar.hR w0;refine bS Tryz.func93 rfl Tryz.ntmps93 rfl (.go 6 rfl (.ac (.S2 (key:=tQ) (val:=q3) fun ai aG au aJ c9 a1=>have bx:=(dz.S3 au aJ a1).cJ;.z (.build (vs:=#[(1,(.map (some aG):Value))]) (v:=.agg #[.slice none 0 0,.map (some aG)]) rfl (fun _=>by kernel_rfl)) (.ac (.box [.slice none 0 0,.map (some aG)] rfl rfl fun aZ aN ax aK eY bH=>have b2:=(bx.dm ax aK bH).cK;.ae 2 rfl (aL Tryz.func93 rfl rfl ?_))))));have bP:ar (fun _=>False) (fun _=>False) w0 aZ [mR tQ q3 aG [],az aN [.slice none 0 0,.map (some aG)] 176,oF n0 172 2 (.slice none 0 0) (([]:List (Int×Int)))]:=b2.new (Mod.refl _ _) (F:=fun _=>False) ⟨0,kM.nil,fun b U=>(by omega)⟩ (fun _ h=>h.elim);have bo:=(bP.bn [] 1 2 0 (by rfl) (by decide)).cJ;have bR:=(bo.tR 0 rfl (q:=[]) k6.nil).cJ;obtain ⟨cD,c0,c3,cQ⟩:=bR.fin;exact aj.mk ⟨_,c0,rfl,cD,c3,fun b U=>⟨(cQ b U).1,(cQ b U).2.resolve_left id⟩⟩
theorem B0 {p:Prop} (h:p:=by rw [j6.2]; exact s8):p:=h
theorem afU {w0:World} {F:Nat→Prop} {fS:Nat} {q:List bI} {a:bI} (bg:(lV (R:=fun _=>False) 176 172 fS q).p F w0) (bO:∀ b,F b→b < w0.heap.size) (c7:a.Ok) (afV:q.length≤100000) :
 Calls Tryz.prog 47 #[ptr fS 0,.agg #[.int .i64 a.slot,.int .i64 a.query,.int .i64 a.shard,.int .i64 a.seq,.int .i64 a.hf,aH a.text,.int .i64 a.k,.int .i64 a.batch,.bool a.first,.int .i64 a.after.cd,aH a.after.word]] w0 (aj fun aD ai=>aD=.bool (q4 q a)∧Mod F w0 ai∧∃ cO,(lV (R:=fun _=>False) 176 172 fS ((iY q a))).p cO ai∧∀ b,cO b→b < ai.heap.size∧(F b∨w0.heap.size≤b)):=by
 have pc:=c7.slot;have jK:=c7.query;have si:=c7.shard;have um:=c7.seq;have L9:=c7.hf;have uo:=c7.k;have uq:=c7.batch;have ur:=c7.cd;have gB:=ar.nu (R:=fun _=>False) bg (fun b U=>⟨bO b U,id⟩) (fun _ h=>h.elim);have cP:ar (fun _=>False) F w0 w0 [lV 176 172 fS q]:=gB;obtain ⟨⟨qD,j7,Ab⟩,bx⟩:=cP.iO (i:=0) rfl;obtain ⟨s8,bJ⟩:=bx.and (i:=0) rfl;change ar (fun _=>False) F w0 w0 [bA [az fS [qD,.map (some j7)] 176,oF n0 172 2 qD (q.map bI.pl),mR tQ q3 j7 Ab]] at bJ;change k6 Ab q at s8;have b2:=(bJ.un 0 rfl [] (by rfl) (by decide)).dM;have fg:=(b2.Dq (i:=1) rfl).le;have L8:(q.map bI.pl).length=q.length:=List.length_map ..;refine bS Tryz.func47 rfl Tryz.ntmps47 rfl (.go 2 rfl (.ac (.box (k5 a) rfl rfl fun ai aG au aJ c9 a1=>have bo:=(b2.dm au aJ a1).bu;.go 6 rfl (.z (.nr Tryz.underlying93 rfl rfl) (.go 1 rfl (have f1:=bo.k 3;.a_ BG aP f1 (.aX (.lt rfl rfl) (fun aK=>?_) fun aK=>?_)))))))
 · exact .ae 22 rfl (aL Tryz.func47 rfl rfl (have j6:=G0 (q:=q) (a:=a) (by omega);have bR:=(bo.ty (oF n0 172 2 qD (((iY q a).map bI.pl))) 1 rfl (fun eS bN=>(by rw [j6.2]; exact bN))).bu;have cv:=(bR.bn [3] 0 1 2 (by rfl) (by decide)).cK;have cI:=(cv.tR 1 rfl (q:=(iY q a)) B0).cK;cI.rt 1 rfl (congrArg Value.bool j6.1.symm)))
 refine .go 2 rfl (.a_ BG aP f1 (.aX (.ge rfl rfl) (fun aV=>?_) fun aV=>?_))
 · exact .ae 17 rfl (aL Tryz.func47 rfl rfl (have j6:=G0 (q:=q) (a:=a) (by omega);have bR:=(bo.ty (oF n0 172 2 qD (((iY q a).map bI.pl))) 1 rfl (fun eS bN=>(by rw [j6.2]; exact bN))).bu;have cv:=(bR.bn [3] 0 1 2 (by rfl) (by decide)).cK;have cI:=(cv.tR 1 rfl (q:=(iY q a)) B0).cK;cI.rt 1 rfl (congrArg Value.bool j6.1.symm)))
 refine .go 2 rfl (.a_ x_ aP f1 (.aX (.lt rfl rfl) (fun bc=>?_) fun bc=>?_))
 · exact .ae 12 rfl (aL Tryz.func47 rfl rfl (have j6:=G0 (q:=q) (a:=a) (by omega);have bR:=(bo.ty (oF n0 172 2 qD (((iY q a).map bI.pl))) 1 rfl (fun eS bN=>(by rw [j6.2]; exact bN))).bu;have cv:=(bR.bn [3] 0 1 2 (by rfl) (by decide)).cK;have cI:=(cv.tR 1 rfl (q:=(iY q a)) B0).cK;cI.rt 1 rfl (congrArg Value.bool j6.1.symm)))
 refine .go 2 rfl (.a_ x_ aP f1 (.aX (.ge rfl rfl) (fun cy=>?_) fun cy=>?_))
 · exact .ae 7 rfl (aL Tryz.func47 rfl rfl (have j6:=G0 (q:=q) (a:=a) (by omega);have bR:=(bo.ty (oF n0 172 2 qD (((iY q a).map bI.pl))) 1 rfl (fun eS bN=>(by rw [j6.2]; exact bN))).bu;have cv:=(bR.bn [3] 0 1 2 (by rfl) (by decide)).cK;have cI:=(cv.tR 1 rfl (q:=(iY q a)) B0).cK;cI.rt 1 rfl (congrArg Value.bool j6.1.symm)))
 refine .go 6 rfl (.a_ BG aP f1 (.a_ x_ aP f1 (.z (.build (vs:=#[(0,(.int .i64 a.slot:Value)),(1,(.int .i64 a.shard:Value))]) (v:=.agg #[.int .i64 a.slot,.int .i64 a.shard]) rfl (fun _=>by kernel_rfl)) (.ac (.alloc pJ fun aZ c8 ax ck eY bH=>have cv:=(bo.dm ax ck bH).c6;have f2:=cv.k 4;.ac (.st pJ f2 fun bz aM cE=>have cI:=(cv.cL (cs':=[.int .i64 a.slot,.int .i64 a.shard]) (i:=4) rfl aM cE).c6;.ae 2 rfl (fx (fun i=>Nat.beq i 9 || Nat.beq i 10) 12 (fun ah=>ez ah fS [qD,.map (some j7)] 176∧ez ah c8 [.int .i64 a.slot,.int .i64 a.shard] 172∧jV tQ q3 ah j7 Ab) mixed (by kernel_rfl) fun cj aW=>have b8:=cI.ext aW;have f3:=b8.k 0;have f4:=b8.k 4;have f5:=b8.mp (i:=2) rfl;⟨⟨f3,f4,f5⟩,?_⟩)))))));rw [show List.range' 0 (Array.size _)=[0,1,2,3,4,5,6,7,8,9,10,11] from rfl];refine .gd 2 rfl (.z rfl (.fieldAddr BJ rfl) (.z rfl (.cT BE rfl (fun _ an=>(an.1.cell 1 _ rfl))) (.z rfl (.c4 pJ rfl (fun _ an=>an.2.1.row) rfl) ?_)))
 cases ou:lr q a.pl with
 | none =>
  refine .z rfl (.adk (a:=a.pl) (val:=q3) Aa Tryz.underlying174 Tryz.zeroValue35 rfl rfl (fun _ an=>an.2.2) (by rw [s8.at_]; exact ou)) ?_
  refine .gd 3 rfl ?_
  refine .ac rfl (.alloc gY fun cM hy bh c' gT da=>?_)
  have ct:=(b8.dm bh c' da).n6
  have f8:=ct.k 0
  have f9:=ct.k 4
  have f10:=ct.mp (i:=2) rfl
  refine ⟨.inr ⟨f8,f9,f10⟩,?_⟩
  have f11:=ct.k 5
  refine .ac rfl (.store gY rfl rfl rfl rfl rfl f11 dx fun de bQ gL eT=>?_)
  have cq:=(ct.cL (cs':=[.int .i64 0,.int .i64 0,.int .i64 0,.int .i64 0,.int .i64 0,aH [],.int .i64 0,.int .i64 0,.bool false,.int .i64 0,aH []]) (i:=5) rfl bQ eT).n6
  have f12:=cq.k 0
  have f13:=cq.k 4
  have f14:=cq.mp (i:=2) rfl
  refine ⟨.inr ⟨f12,f13,f14⟩,?_⟩
  refine .gd 1 rfl ?_
  refine .nil ?_
  refine .go 32 rfl ?_
  refine .z (.not rfl) ?_
  refine .ae 3 rfl ?_
  refine fx (fun i=>Nat.beq i 6 || Nat.beq i 7 || Nat.beq i 10) 10 (fun ah=>ez ah fS [qD,.map (some j7)] 176∧ez ah c8 [.int .i64 a.slot,.int .i64 a.shard] 172) mixed (by kernel_rfl) fun dv b3=>?_
  have bF:=cq.ext b3
  have f15:=bF.k 0
  have f16:=bF.k 4
  refine ⟨⟨f15,f16⟩,?_⟩
  rw [show List.range' 0 (Array.size _)=[0,1,2,3,4,5,6,7,8,9,10] from rfl]
  refine .gd 3 rfl ?_
  refine .z rfl (.fieldAddr BI rfl) ?_
  refine .z rfl (.cT BD rfl (fun _ an=>(an.1.cell 0 _ rfl))) ?_
  refine .z rfl (.c4 pJ rfl (fun _ an=>an.2.row) rfl) ?_
  refine .ac rfl (.buildSlice [(.agg #[.int .i64 a.slot,.int .i64 a.shard]:Value)] Tryz.underlying173 pJ rfl rfl rfl (by decide) fun en h5 cF dq i1 fZ=>?_)
  have b6:=ak.eP (enc:=n0) fZ ([(Prod.mk a.slot a.shard)]:List ((Int×Int))) 1 rfl rfl (by unfold maxLen; omega)
  have cz:=(bF.iD cF dq i1 b6).n7
  have f19:=cz.k 0
  have f20:=cz.k 4
  refine ⟨.inr ⟨f19,f20⟩,?_⟩
  obtain ⟨g1,L_,dG,bw⟩:=cz.KU (i:=1) rfl
  have f21:=cz.bl (i:=6) (k:=0) rfl rfl
  refine .ac rfl (.adm L_ Tryz.underlying173 pJ rfl KW adu rfl rfl (f21) (by simp) (by simp only [List.length_cons,List.length_nil]; omega) (by unfold maxLen; simp only [List.length_cons,List.length_nil]; omega) fun v1 g2 eE b7 cG cf=>?_)
  have cS:=(bw _ _ _ _ cG b7 (cf.imp id .inr)).n7
  clear cf
  have f22:=cS.k 0
  have f23:=cS.k 4
  refine ⟨.inr ⟨f22,f23⟩,?_⟩
  refine .gd 1 rfl ?_
  refine .z rfl (.fieldAddr BI rfl) ?_
  have f24:=cS.Dq (i:=1) rfl
  obtain ⟨br,bs,ej⟩:=f24.shape
  subst ej
  refine .ac rfl (.st BD f22 fun eO cX oj=>?_)
  have dd:=(cS.cL (cs':=[(.slice br (((q.map bI.pl)++[(Prod.mk a.slot a.shard)])).length bs),.map (some j7)]) (i:=0) rfl cX oj).n7
  refine ⟨.inl rfl,?_⟩
  refine .nil ?_
  refine .ae 2 rfl ?_
  refine wC.Dt (fun i=>Nat.beq i 6) (fun i=>Nat.beq i 3 || Nat.beq i 4 || Nat.beq i 5) 6 (fun _=>True) mixed (by kernel_rfl) (by kernel_rfl) fun gi dV=>?_
  have dI:=dd.ext dV
  refine ⟨trivial,?_⟩
  rw [show List.range' 0 (Array.size _)=[0,1,2,3,4,5,6] from rfl]
  refine .gd 2 rfl ?_
  refine .mS rfl (.fieldAddr BJ rfl) ?_
  have f25:=dI.k 0
  refine .n2 rfl (.fV BE f25) ?_
  have f26:=dI.k 4
  refine .n2 rfl (.c4 pJ rfl (fun _ e=>e▸f26.row) rfl) ?_
  have f27:=dI.k 3
  refine .n2 rfl (.c4 gY rfl (fun _ e=>e▸f27.row) rfl) ?_
  have f28:=dI.mp (i:=2) rfl
  refine .ac rfl (.KS a.pl a Aa Tryz.underlying174 rfl rfl rfl f28 fun hA fG D3 wK=>?_)
  have eF:=(dI.Dn (i:=2) rfl fG wK).n7
  refine ⟨.inl rfl,?_⟩
  refine .nil ?_
  refine .ae 4 rfl ?_
  refine aL Tryz.func47 rfl rfl ?_
  have j6:=adN (by omega) ou
  have dK:=(eF.ty (oF n0 172 2 ((.slice br (((q.map bI.pl)++[(Prod.mk a.slot a.shard)])).length bs)) (((iY q a).map bI.pl))) 1 rfl (fun eS bN=>(by rw [j6.2,List.map_append]; exact bN))).n7
  have ds:=(dK.bn [3,4,5,6] 0 1 2 (by rfl) (by decide)).c6
  have fs:=(ds.tR 4 rfl (q:=(iY q a)) (by rw [j6.2]; exact s8.add ou)).c6
  exact fs.rt 4 rfl (congrArg Value.bool j6.1.symm)
 | some x =>
  refine .z rfl (.adj (a:=a.pl) (val:=q3) Aa Tryz.underlying174 Tryz.zeroValue35 rfl rfl (fun _ an=>an.2.2) (by rw [s8.at_]; exact ou)) ?_
  refine .gd 3 rfl ?_
  refine .ac rfl (.alloc gY fun cM hy bh c' gT da=>?_)
  have ct:=(b8.dm bh c' da).n6
  have f8:=ct.k 0
  have f9:=ct.k 4
  have f10:=ct.mp (i:=2) rfl
  refine ⟨.inr ⟨f8,f9,f10⟩,?_⟩
  have f11:=ct.k 5
  refine .ac rfl (.st gY f11 fun de bQ eT=>?_)
  have cq:=(ct.cL (cs':=(k5 x)) (i:=5) rfl bQ eT).n6
  have f12:=cq.k 0
  have f13:=cq.k 4
  have f14:=cq.mp (i:=2) rfl
  refine ⟨.inr ⟨f12,f13,f14⟩,?_⟩
  refine .gd 1 rfl ?_
  refine .nil ?_
  refine .go 6 rfl ?_
  have f15:=cq.k 5
  refine .a_ zK aP f15 ?_
  have f16:=cq.k 3
  refine .a_ zK aP f16 ?_
  refine .aX (.gt rfl rfl) (fun dq=>?_) fun dq=>?_
  · refine .ae 22 rfl ?_
    refine aL Tryz.func47 rfl rfl ?_
    have j6:=Ti ou (by omega)
    have bF:=(cq.ty (oF n0 172 2 qD (((iY q a).map bI.pl))) 1 rfl (fun eS bN=>(by rw [j6.2]; exact bN))).n6
    have cg:=(bF.bn [3,4,5] 0 1 2 (by rfl) (by decide)).bu
    have cz:=(cg.tR 3 rfl (q:=(iY q a)) B0).bu
    exact cz.rt 3 rfl (congrArg Value.bool j6.1.symm)
  refine .go 1 rfl ?_
  refine .a_ zK aP f15 ?_
  refine .a_ zK aP f16 ?_
  refine .h8 (.eq rfl rfl) (fun e8=>?_) fun e8=>?_
  · refine .go 1 rfl ?_
    refine .a_ Dz aP f15 ?_
    refine .a_ Dz aP f16 ?_
    refine .aX (.gt rfl rfl) (fun gn=>?_) fun gn=>?_
    · refine .ae 10 rfl ?_
      refine aL Tryz.func47 rfl rfl ?_
      have j6:=Ti ou (by omega)
      have bF:=(cq.ty (oF n0 172 2 qD (((iY q a).map bI.pl))) 1 rfl (fun eS bN=>(by rw [j6.2]; exact bN))).n6
      have cg:=(bF.bn [3,4,5] 0 1 2 (by rfl) (by decide)).bu
      have cz:=(cg.tR 3 rfl (q:=(iY q a)) B0).bu
      exact cz.rt 3 rfl (congrArg Value.bool j6.1.symm)
    refine .go 9 rfl ?_
    refine .z (.not rfl) ?_
    refine .ae 6 rfl ?_
    refine wC.Dt (fun i=>Nat.beq i 6) (fun i=>Nat.beq i 3 || Nat.beq i 4 || Nat.beq i 5) 6 (fun _=>True) mixed (by kernel_rfl) (by kernel_rfl) fun dv b3=>?_
    have bF:=cq.ext b3
    refine ⟨trivial,?_⟩
    rw [show List.range' 0 (Array.size _)=[0,1,2,3,4,5,6] from rfl]
    refine .gd 2 rfl ?_
    refine .mS rfl (.fieldAddr BJ rfl) ?_
    have f17:=bF.k 0
    refine .n2 rfl (.fV BE f17) ?_
    have f18:=bF.k 4
    refine .n2 rfl (.c4 pJ rfl (fun _ e=>e▸f18.row) rfl) ?_
    have f19:=bF.k 3
    refine .n2 rfl (.c4 gY rfl (fun _ e=>e▸f19.row) rfl) ?_
    have f20:=bF.mp (i:=2) rfl
    refine .ac rfl (.KS a.pl a Aa Tryz.underlying174 rfl rfl rfl f20 fun en cF i1 fZ=>?_)
    have cg:=(bF.Dn (i:=2) rfl cF fZ).n6
    refine ⟨.inl rfl,?_⟩
    refine .nil ?_
    refine .ae 4 rfl ?_
    refine aL Tryz.func47 rfl rfl ?_
    have j6:=Tj (by omega) ou (by omega)
    have cz:=(cg.ty (oF n0 172 2 qD (((iY q a).map bI.pl))) 1 rfl (fun eS bN=>(by rw [j6.2,KY]; exact bN))).n6
    have cS:=(cz.bn [3,4,5] 0 1 2 (by rfl) (by decide)).bu
    have dd:=(cS.tR 3 rfl (q:=(iY q a)) (by rw [j6.2]; exact s8.put ou)).bu
    exact dd.rt 3 rfl (congrArg Value.bool j6.1.symm)
  refine .go 15 rfl ?_
  refine .z (.not rfl) ?_
  refine .ae 6 rfl ?_
  refine wC.Dt (fun i=>Nat.beq i 6) (fun i=>Nat.beq i 3 || Nat.beq i 4 || Nat.beq i 5) 6 (fun _=>True) mixed (by kernel_rfl) (by kernel_rfl) fun dv b3=>?_
  have bF:=cq.ext b3
  refine ⟨trivial,?_⟩
  rw [show List.range' 0 (Array.size _)=[0,1,2,3,4,5,6] from rfl]
  refine .gd 2 rfl ?_
  refine .mS rfl (.fieldAddr BJ rfl) ?_
  have f17:=bF.k 0
  refine .n2 rfl (.fV BE f17) ?_
  have f18:=bF.k 4
  refine .n2 rfl (.c4 pJ rfl (fun _ e=>e▸f18.row) rfl) ?_
  have f19:=bF.k 3
  refine .n2 rfl (.c4 gY rfl (fun _ e=>e▸f19.row) rfl) ?_
  have f20:=bF.mp (i:=2) rfl
  refine .ac rfl (.KS a.pl a Aa Tryz.underlying174 rfl rfl rfl f20 fun en cF i1 fZ=>?_)
  have cg:=(bF.Dn (i:=2) rfl cF fZ).n6
  refine ⟨.inl rfl,?_⟩
  refine .nil ?_
  refine .ae 4 rfl ?_
  refine aL Tryz.func47 rfl rfl ?_
  have j6:=Tj (by omega) ou (by omega)
  have cz:=(cg.ty (oF n0 172 2 qD (((iY q a).map bI.pl))) 1 rfl (fun eS bN=>(by rw [j6.2,KY]; exact bN))).n6
  have cS:=(cz.bn [3,4,5] 0 1 2 (by rfl) (by decide)).bu
  have dd:=(cS.tR 3 rfl (q:=(iY q a)) (by rw [j6.2]; exact s8.put ou)).bu
  exact dd.rt 3 rfl (congrArg Value.bool j6.1.symm)
theorem afW {w0:World} {F:Nat→Prop} {fS:Nat} {a:bI} {q:List bI} (bg:(lV (R:=fun _=>False) 176 172 fS ((a::q))).p F w0) (bO:∀ b,F b→b < w0.heap.size) (afV:q.length≤100000) :
 Calls Tryz.prog 50 #[ptr fS 0] w0 (aj fun aD ai=>aD=.tuple #[q3 a,.bool true]∧Mod F w0 ai∧∃ cO,(lV (R:=fun _=>False) 176 172 fS q).p cO ai∧∀ b,cO b→b < ai.heap.size∧(F b∨w0.heap.size≤b)):=by
 have gB:=ar.nu (R:=fun _=>False) bg (fun b U=>⟨bO b U,id⟩) (fun _ h=>h.elim);have cP:ar (fun _=>False) F w0 w0 [lV 176 172 fS ((a::q))]:=gB;refine bS Tryz.func50 rfl Tryz.ntmps50 rfl (.go 2 rfl (.ac (.alloc gY fun ai aG au aJ c9 a1=>?_)));have bJ:=(cP.dm au aJ a1).cK;obtain ⟨jY,et,dZ,d'⟩:=bJ.act (i:=0) rfl;refine .go 6 rfl (.ac (.aE TH rfl (UB (w0:=ai) et (fun b U=>(dZ b U).2)) ?_));rintro _ aZ ⟨rfl,ax⟩;have b2:=bJ.ext ax;clear et dZ d';refine .wG (.eq rfl rfl) (by exact decide_eq_false (by simp only [List.length_cons]; omega)) ?_;obtain ⟨⟨qD,j7,Ab⟩,bP⟩:=b2.iO (i:=0) rfl;obtain ⟨s8,bo⟩:=bP.and (i:=0) rfl;change ar (fun _=>False) F w0 aZ [bA [az fS [qD,.map (some j7)] 176,oF n0 172 2 qD (((a::q)).map bI.pl),mR tQ q3 j7 Ab],az aG [.int .i64 0,.int .i64 0,.int .i64 0,.int .i64 0,.int .i64 0,aH [],.int .i64 0,.int .i64 0,.bool false,.int .i64 0,aH []] 35] at bo;change k6 Ab ((a::q)) at s8;have bR:=(bo.un 0 rfl [1] (by rfl) (by decide)).bu;have fg:=(bR.Dq (i:=2) rfl).le;have q9:((a::q).map bI.pl).length=q.length+1:=(by simp);refine .go 7 rfl (have f1:=bR.k 1;.a_ BI BD f1 ?_);have f2:=bR.Dq (i:=2) rfl;obtain ⟨aw,bn,fE,a7,bK,b6,cV⟩:=ak.eH (P:=Tryz.prog) f2 Tryz.underlying173 pJ KW (k:=.i64) (n:=0) (0) (by omega) aU;refine .z (.indexAddr rfl rfl bK) (have UD:aw=a.pl:=(by simpa using a7.symm);.z (.c4 pJ rfl (fun _ e=>e▸cV) rfl) ?_);refine .ac (.alloc pJ fun bz bj aM aV eY bH=>have cI:=(bR.dm aM aV bH).c6;have f3:=cI.k 4;.ac (.st pJ f3 fun cj aW cE=>have b8:=(cI.cL (cs':=[.int .i64 aw.1,.int .i64 aw.2]) (i:=4) rfl aW cE).c6;.go 6 rfl ?_));have f4:=b8.k 1;refine .a_ BI BD f4 ?_;obtain ⟨g1,L_,dG,bw⟩:=b8.KU (i:=2) rfl;obtain ⟨v1,g2,c_,afX,cf⟩:=kM.from (P:=Tryz.prog) L_ Tryz.underlying173 pJ KW (k:=.i64) (n:=1) (1) rfl (by simp);refine .z (.ss rfl rfl rfl rfl c_) ?_;have bW:=(bw _ _ _ _ (Mod.refl _ _) afX (cf.elim .inl fun x=>.inr (.inl x))).c6;clear cf;refine .go 1 rfl (.z (.fieldAddr BI rfl) ?_);have f5:=bW.Dq (i:=2) rfl;obtain ⟨br,bs,ej⟩:=f5.shape;subst ej;have f6:=bW.k 1;refine .ac (.st BD f6 fun cM bh da=>have ct:=(bW.cL (cs':=[(.slice br ((((((a::q)).map bI.pl)).drop 1)).length bs),.map (some j7)]) (i:=1) rfl bh da).c6;.ae 2 rfl (fx (fun i=>Nat.beq i 6 || Nat.beq i 7) 7 (fun ah=>ez ah fS [(.slice br ((((((a::q)).map bI.pl)).drop 1)).length bs),.map (some j7)] 176∧ez ah bj [.int .i64 aw.1,.int .i64 aw.2] 172∧jV tQ q3 ah j7 Ab) mixed (by kernel_rfl) fun de bQ=>?_));have cq:=ct.ext bQ;have f7:=cq.k 1;have f8:=cq.k 4;have f9:=cq.mp (i:=3) rfl;refine ⟨⟨f7,f8,f9⟩,?_⟩;rw [show List.range' 0 (Array.size _)=[0,1,2,3,4,5,6,7] from rfl];refine .gd 2 rfl (.z rfl (.fieldAddr BJ rfl) (.z rfl (.cT BE rfl (fun _ an=>(an.1.cell 1 _ rfl))) ?_));refine .z rfl (.c4 pJ rfl (fun _ an=>an.2.1.row) rfl) (.z rfl (.adi (a:=aw) (val:=q3) Aa Tryz.underlying174 Tryz.zeroValue35 rfl rfl (fun _ an=>an.2.2) (by rw [UD]; exact s8.head)) (.ac rfl (.alloc gY fun dv cR b3 bc gL eT=>?_)));have cg:=(cq.dm b3 bc eT).n6;have f12:=cg.k 1;have f13:=cg.k 4;have f14:=cg.mp (i:=3) rfl;refine ⟨.inr ⟨f12,f13,f14⟩,(have f15:=cg.k 5;.ac rfl (.st gY f15 fun en cF fZ=>have cz:=(cg.cL (cs':=(k5 a)) (i:=5) rfl cF fZ).n6;⟨.inl rfl,?_⟩))⟩;refine .nil (.ae 1 rfl (wC.Dt (fun i=>Nat.beq i 5) (fun i=>Nat.beq i 3 || Nat.beq i 4) 6 (fun _=>True) mixed (by kernel_rfl) (by kernel_rfl) fun eE cG=>?_));have cS:=cz.ext cG;refine ⟨trivial,?_⟩;rw [show List.range' 0 (Array.size _)=[0,1,2,3,4,5] from rfl];refine .gd 2 rfl (.mS rfl (.fieldAddr BJ rfl) (have f16:=cS.k 1;.n2 rfl (.fV BE f16) ?_));have f17:=cS.k 4;refine .n2 rfl (.c4 pJ rfl (fun _ e=>e▸f17.row) rfl) ?_;have f18:=cS.mp (i:=3) rfl;refine .ac rfl (.adg aw Aa Tryz.underlying174 rfl rfl rfl f18 fun eO cX uh oj=>have dd:=(cS.Dn (i:=3) rfl cX oj).n6;⟨.inr trivial,.nil ?_⟩);have f19:=dd.k 5;refine .go 2 rfl (.z (.c4 gY rfl (fun _ e=>e▸f19.row) rfl) ?_);have f20:=dd.k 0;refine .ac (.st gY f20 fun gi dV wK=>have dI:=(dd.cL (cs':=(k5 a)) (i:=0) rfl dV wK).n6;have f21:=dI.k 0;.ae 2 rfl (QU Tryz.func50 rfl rfl gY f21.row rfl rfl ?_));have eF:=(dI.ty (oF n0 172 2 ((.slice br ((((((a::q)).map bI.pl)).drop 1)).length bs)) ((q.map bI.pl))) 2 rfl (fun eS bN=>by simpa using bN)).n6;have dK:=(eF.bn [0,4,5] 1 2 3 (by rfl) (by decide)).bu;have ds:=(dK.tR 3 rfl (q:=q) (by rw [UD]; exact s8.pop)).bu;exact ds.rt 3 rfl rfl
theorem afY {w0:World} {F:Nat→Prop} {fS:Nat} (bg:(lV (R:=fun _=>False) 176 172 fS []).p F w0) (bO:∀ b,F b→b < w0.heap.size) :
 Calls Tryz.prog 50 #[ptr fS 0] w0 (aj fun aD ai=>aD=.tuple #[q3 KV,.bool false]∧Ext w0 ai):=by
 have UE:=bg;have dz:=ar.hR w0;refine bS Tryz.func50 rfl Tryz.ntmps50 rfl (.go 2 rfl (.ac (.alloc gY fun ai aG au aJ c9 a1=>have bx:=(dz.dm au aJ a1).cJ;.go 6 rfl (.ac (.aE TH rfl (UB (w0:=ai) ((lV (R:=fun _=>False) 176 172 fS []).keep bg bx.mod (fun _ _ h=>h) (fun _ h=>h.elim)) (fun b U=>Nat.lt_of_lt_of_le (bO b U) bx.mod.size)) ?_)))));rintro _ aZ ⟨rfl,ax⟩;have bJ:=bx.ext ax;exact .By (.eq rfl rfl) (by rfl) (.go 4 rfl (.z (.build (vs:=#[]) (v:=.agg #[.int .i64 0,.int .i64 0,.int .i64 0,.int .i64 0,.int .i64 0,aH [],.int .i64 0,.int .i64 0,.bool false,.int .i64 0,aH []]) rfl (fun _=>by kernel_rfl)) (have f1:=bJ.k 0;.ac (.st gY f1 fun bz aM bH=>have b2:=(bJ.cL (cs':=[.int .i64 0,.int .i64 0,.int .i64 0,.int .i64 0,.int .i64 0,aH [],.int .i64 0,.int .i64 0,.bool false,.int .i64 0,aH []]) (i:=0) rfl aM bH).cJ;have f2:=b2.k 0;.ae 2 rfl (QU Tryz.func50 rfl rfl gY f2.row rfl rfl (aj.mk ⟨rfl,b2.mod⟩))))))
end Go.Proofs
namespace Go.Proofs
open Go.aA Go.ab
theorem L' {p:Prop} (h:p:=by first|exact adO a7 (by omega)|exact adP ho (by omega)|(exfalso; omega)):p:=h
theorem UF {w0:World}  {Ma:Value} {ns:List Int} (Mb:ak aA.encI w0 (aR 0 w0.heap.size) Ma ns) :
 Calls Tryz.prog 82 #[Ma] w0 (aj fun aD ai=>(∃ b4:Bool,b4=(x6 ns)∧aD=.bool b4)∧Ext w0 ai):=by
 have akU:=Mb.le;have dz:=ar.hR w0;refine bS Tryz.func82 rfl Tryz.ntmps82 rfl (.go 8 rfl (.z (.ca Tryz.underlying57 (Mb) rfl) (.ae 3 rfl (dU (I:=fun m E W=>∃ (i:Nat),E=[(5,Ma),(6,.int .i64 (((ns.length:Nat):Int))),(7,.int .i64 (((i:Nat):Int)))]∧m=ns.length-i∧ar (fun _=>False) (fun _=>False) w0 W []∧(∀ z∈ns.take i,0≤z∧z≤2147483647)) ?_ ?_))))
 · refine ⟨_,_,⟨(0:Nat),rfl,rfl,dz,(by (intro z b'; simp at b'))⟩,⟨rfl,rfl,rfl,trivial⟩⟩
 · rintro _ _ ai ⟨i,rfl,rfl,cP,ho⟩ bV;refine .go 2 rfl (.aX (.lt rfl rfl) (fun aJ=>?_) fun aJ=>?_)
   · refine .ae 2 rfl ?_;have f1:=cP.out Mb (fun _ _ h=>h);obtain ⟨aw,aN,fE,a7,bK,b6,cV⟩:=ak.eH (P:=Tryz.prog) f1 Tryz.underlying57 aP aA.fy (k:=.i64) (n:=((i:Nat):Int)) (i) (by omega) aU;refine .go 6 rfl (.z (.indexAddr rfl rfl bK) (.z (.dT aP cV) (.go 5 rfl (.aX (.lt rfl rfl) (fun aK=>?_) fun aK=>?_))))
     · exact .ae 10 rfl (aL Tryz.func82 rfl rfl (aj.mk ⟨⟨_,L',rfl⟩,cP.mod⟩))
     refine .go 2 rfl (.aX (.gt rfl rfl) (fun aV=>?_) fun aV=>?_)
     · exact .ae 7 rfl (aL Tryz.func82 rfl rfl (aj.mk ⟨⟨_,L',rfl⟩,cP.mod⟩))
     exact .go 6 rfl (.z (.bZ (((i+1:Nat):Int)) rfl rfl (by omega)) (.ae 2 rfl ((bV _ _ _ ⟨(i+1:Nat),rfl,rfl,cP,(by first|exact adQ ho a7 (by omega)|(exfalso; omega))⟩ (by omega)).sub ⟨rfl,rfl,rfl,trivial⟩)))
   exact .ae 8 rfl (aL Tryz.func82 rfl rfl (aj.mk ⟨⟨_,L',rfl⟩,cP.mod⟩))
theorem Mc {p:Prop} (h:p:=by first|exact adR (by omega)|exact adS (by omega) (by assumption)|(exfalso; omega)):p:=h
theorem afZ {w0:World}  {x:dk} (akV:x.word.length≤1000000) :
 Calls Tryz.prog 125 #[.agg #[.int .i64 x.cd,aH x.word]] w0 (aj fun aD ai=>(∃ b4:Bool,b4=(zG x)∧aD=.bool b4)∧Ext w0 ai):=by
 have dz:=ar.hR w0;refine bS Tryz.func125 rfl Tryz.ntmps125 rfl (.go 2 rfl (.ac (.box [.int .i64 x.cd,aH x.word] rfl rfl fun ai aG au aJ c9 a1=>have bx:=(dz.dm au aJ a1).cJ;.go 4 rfl (have f1:=bx.k 0;.a_ G_ aP f1 (.aX (.ge rfl rfl) (fun aK=>?_) fun aK=>?_)))))
 · refine .go 1 rfl (.a_ G_ aP f1 (.aX (.le rfl rfl) (fun aV=>?_) fun aV=>?_))
   · refine .go 2 rfl (.a_ G' dp f1 (.ac (.aE K9 rfl (Lg (w0:=ai)  x.word aU) ?_)));rintro _ aZ ⟨⟨bj,bc,rfl⟩,ax⟩;have bJ:=bx.ext ax;exact .ae 3 rfl (aL Tryz.func125 rfl rfl (aj.mk ⟨⟨_,Mc,rfl⟩,bJ.mod⟩))
   exact .ae 8 rfl (aL Tryz.func125 rfl rfl (aj.mk ⟨⟨_,Mc,rfl⟩,bx.mod⟩))
 exact .ae 12 rfl (aL Tryz.func125 rfl rfl (aj.mk ⟨⟨_,Mc,rfl⟩,bx.mod⟩))
theorem HO {p:Prop} (h:p:=by first|exact adU (by omega)|exact adT (by assumption) (by omega)|(exfalso; omega)):p:=h
theorem UG {w0:World}  (slot:Int) (shard:Int) (akW:bp slot) (ya:bp shard) :
 Calls Tryz.prog 85 #[.int .i64 slot,.int .i64 shard] w0 (aj fun aD ai=>(∃ b4:Bool,b4=(zH slot shard)∧aD=.bool b4)∧Ext w0 ai):=by
 have dz:=ar.hR w0;refine bS Tryz.func85 rfl Tryz.ntmps85 rfl (.go 7 rfl (.aX (.ge rfl rfl) (fun aJ=>?_) fun aJ=>?_))
 · refine .go 2 rfl (.aX (.lt rfl rfl) (fun aK=>?_) fun aK=>?_)
   · refine .go 3 rfl (.aX (.ge rfl rfl) (fun aV=>?_) fun aV=>?_)
     · exact .go 3 rfl (.ev (.lt rfl rfl) fun bj bc=>.ae 3 rfl (aL Tryz.func85 rfl rfl (aj.mk ⟨⟨_,HO,rfl⟩,dz.mod⟩)))
     exact .ae 7 rfl (aL Tryz.func85 rfl rfl (aj.mk ⟨⟨_,HO,rfl⟩,dz.mod⟩))
   exact .ae 11 rfl (aL Tryz.func85 rfl rfl (aj.mk ⟨⟨_,HO,rfl⟩,dz.mod⟩))
 exact .ae 14 rfl (aL Tryz.func85 rfl rfl (aj.mk ⟨⟨_,HO,rfl⟩,dz.mod⟩))
theorem pT {p:Prop} (h:p:=by first|exact adV (by assumption)|exact adW (by assumption)|exact adX (by assumption)|exact adY (by assumption)|exact adZ (by omega)|exact ad0 (by assumption) (by assumption) (by assumption) (by assumption) (by omega) (by assumption)|(exfalso; omega)):p:=h
theorem HP {p:Prop} (h:p:=by assumption):p:=h
theorem af0 {w0:World}  {m:bI} (yl:bI.Ok m) (UH:m.text.length≤1000000) (UI:m.after.word.length≤1000000) :
 Calls Tryz.prog 83 #[.agg #[.int .i64 m.slot,.int .i64 m.query,.int .i64 m.shard,.int .i64 m.seq,.int .i64 m.hf,aH m.text,.int .i64 m.k,.int .i64 m.batch,.bool m.first,.int .i64 m.after.cd,aH m.after.word]] w0 (aj fun aD ai=>(∃ b4:Bool,b4=(oH m)∧aD=.bool b4)∧Ext w0 ai):=by
 have pc:=yl.slot;have jK:=yl.query;have si:=yl.shard;have um:=yl.seq;have L9:=yl.hf;have uo:=yl.k;have uq:=yl.batch;have ur:=yl.cd;have dz:=ar.hR w0;refine bS Tryz.func83 rfl Tryz.ntmps83 rfl (.go 2 rfl (.ac (.box (k5 m) rfl rfl fun ai aG au aJ c9 a1=>?_)));have bx:=(dz.dm au aJ a1).cJ;refine .go 4 rfl (.z (.fieldAddr Hb rfl) (have f1:=bx.k 0;.z (.c4 nA rfl (fun _ e=>e▸(f1.part 9 2 dx)) rfl) ?_));refine .ac (.aE aej rfl (afZ (w0:=ai) (x:=m.after)  aU) ?_);rintro _ aZ ⟨⟨aN,aK,rfl⟩,ax⟩;have bJ:=bx.ext ax;refine .go 5 rfl (have f2:=bJ.k 0;.a_ TA fW f2 ?_);generalize aV:m.first=af1;replace aV:=aV.symm;refine .ae 1 rfl ?_;cases af1
 case true =>
  replace aV:=aV.symm;refine .go 2 rfl (.z (.fieldAddr Hb rfl) (.z (.c4 nA rfl (fun _ e=>e▸(f2.part 9 2 dx)) rfl) ?_));refine .z (.build (vs:=#[]) (v:=.agg #[.int .i64 0,aH []]) rfl (fun _=>by kernel_rfl)) (.ev (.CM (by kernel_rfl) (TD m.after ((dk.mk 0 []))) rfl rfl) fun bn bc=>have cy:bn=wD m:=(by first|exact Tm HP bc|exact Tn HP bc);.go 6 rfl ?_);cases bn
  case true =>
   replace cy:=cy.symm;refine .a_ BG aP f2 (.a_ x_ aP f2 (.ac (.aE TG rfl (UG (w0:=aZ)  (m.slot) (m.shard) cu cu) ?_)));rintro _ bz ⟨⟨bj,ck,rfl⟩,aM⟩;have b2:=bJ.ext aM;refine .go 2 rfl ?_;cases bj
   case true =>
    replace ck:=ck.symm;have f3:=b2.k 0;refine .a_ zK aP f3 (.a_ Dz aP f3 (.a_ BH aP f3 ?_));refine .ac (.buildSlice [(.int .i64 m.query:Value),(.int .i64 m.seq:Value),(.int .i64 m.hf:Value)] Tryz.underlying57 aP rfl rfl rfl (by decide) fun cj cR aW c' eY bH=>have b6:=ak.eP (enc:=aA.encI) bH ([m.query,m.seq,m.hf]:List Int) 3 rfl rfl (by unfold maxLen; omega);have bo:=(b2.iD aW c' eY b6).cK;have f4:=bo.bl (i:=1) (k:=0) rfl rfl;.ac (.aE TF rfl (UF (w0:=cj) (ns:=[m.query,m.seq,m.hf])  f4) ?_));rintro _ cM ⟨⟨c8,dq,rfl⟩,bh⟩;have bR:=bo.ext bh;refine .go 2 rfl ?_;cases c8
    case true =>
     replace dq:=dq.symm;have f5:=bR.k 0;refine .a_ Ha dp f5 (.ac (.aE La rfl (Lh (w0:=cM)  m.text aU) ?_));rintro _ de ⟨⟨hy,e8,rfl⟩,bQ⟩;have cv:=bR.ext bQ;refine .go 2 rfl ?_;cases hy
     case true =>
      replace e8:=e8.symm;have f6:=cv.k 0;refine .a_ DA aP f6 (.aX (.ge rfl rfl) (fun gn=>?_) fun gn=>?_)
      · refine .go 2 rfl (.a_ DA aP f6 (.aX (.le rfl rfl) (fun mE=>?_) fun mE=>?_))
        · refine .go 2 rfl (.a_ DB aP f6 (.aX (.ge rfl rfl) (fun mX=>?_) fun mX=>?_))
          · refine .go 2 rfl (.a_ DB aP f6 (.ev (.le rfl rfl) fun mF BO=>?_));exact .ae 3 rfl (aL Tryz.func83 rfl rfl (aj.mk ⟨⟨_,pT,rfl⟩,cv.mod⟩))
          exact .ae 8 rfl (aL Tryz.func83 rfl rfl (aj.mk ⟨⟨_,pT,rfl⟩,cv.mod⟩))
        exact .ae 13 rfl (aL Tryz.func83 rfl rfl (aj.mk ⟨⟨_,pT,rfl⟩,cv.mod⟩))
      exact .ae 18 rfl (aL Tryz.func83 rfl rfl (aj.mk ⟨⟨_,pT,rfl⟩,cv.mod⟩))
     replace e8:=e8.symm;exact .ae 21 rfl (aL Tryz.func83 rfl rfl (aj.mk ⟨⟨_,pT,rfl⟩,cv.mod⟩))
    replace dq:=dq.symm;exact .ae 26 rfl (aL Tryz.func83 rfl rfl (aj.mk ⟨⟨_,pT,rfl⟩,bR.mod⟩))
   replace ck:=ck.symm;exact .ae 36 rfl (aL Tryz.func83 rfl rfl (aj.mk ⟨⟨_,pT,rfl⟩,b2.mod⟩))
  replace cy:=cy.symm;exact .ae 43 rfl (aL Tryz.func83 rfl rfl (aj.mk ⟨⟨_,pT,rfl⟩,bJ.mod⟩))
 replace aV:=aV.symm;have bc:aN=wD m:=(by first|exact Tm HP aK|exact Tn HP aK);refine .go 6 rfl ?_;cases aN
 case true =>
  replace bc:=bc.symm;refine .a_ BG aP f2 (.a_ x_ aP f2 (.ac (.aE TG rfl (UG (w0:=aZ)  (m.slot) (m.shard) cu cu) ?_)));rintro _ bz ⟨⟨bn,cy,rfl⟩,aM⟩;have b2:=bJ.ext aM;refine .go 2 rfl ?_;cases bn
  case true =>
   replace cy:=cy.symm;have f3:=b2.k 0;refine .a_ zK aP f3 (.a_ Dz aP f3 (.a_ BH aP f3 ?_));refine .ac (.buildSlice [(.int .i64 m.query:Value),(.int .i64 m.seq:Value),(.int .i64 m.hf:Value)] Tryz.underlying57 aP rfl rfl rfl (by decide) fun cj bj aW ck eY bH=>have b6:=ak.eP (enc:=aA.encI) bH ([m.query,m.seq,m.hf]:List Int) 3 rfl rfl (by unfold maxLen; omega);have bo:=(b2.iD aW ck eY b6).cK;have f4:=bo.bl (i:=1) (k:=0) rfl rfl;.ac (.aE TF rfl (UF (w0:=cj) (ns:=[m.query,m.seq,m.hf])  f4) ?_));rintro _ cM ⟨⟨cR,c',rfl⟩,bh⟩;have bR:=bo.ext bh;refine .go 2 rfl ?_;cases cR
   case true =>
    replace c':=c'.symm;have f5:=bR.k 0;refine .a_ Ha dp f5 (.ac (.aE La rfl (Lh (w0:=cM)  m.text aU) ?_));rintro _ de ⟨⟨c8,dq,rfl⟩,bQ⟩;have cv:=bR.ext bQ;refine .go 2 rfl ?_;cases c8
    case true =>
     replace dq:=dq.symm;have f6:=cv.k 0;refine .a_ DA aP f6 (.aX (.ge rfl rfl) (fun e8=>?_) fun e8=>?_)
     · refine .go 2 rfl (.a_ DA aP f6 (.aX (.le rfl rfl) (fun gn=>?_) fun gn=>?_))
       · refine .go 2 rfl (.a_ DB aP f6 (.aX (.ge rfl rfl) (fun mE=>?_) fun mE=>?_))
         · refine .go 2 rfl (.a_ DB aP f6 (.ev (.le rfl rfl) fun j3 mX=>?_));exact .ae 3 rfl (aL Tryz.func83 rfl rfl (aj.mk ⟨⟨_,pT,rfl⟩,cv.mod⟩))
         exact .ae 8 rfl (aL Tryz.func83 rfl rfl (aj.mk ⟨⟨_,pT,rfl⟩,cv.mod⟩))
       exact .ae 13 rfl (aL Tryz.func83 rfl rfl (aj.mk ⟨⟨_,pT,rfl⟩,cv.mod⟩))
     exact .ae 18 rfl (aL Tryz.func83 rfl rfl (aj.mk ⟨⟨_,pT,rfl⟩,cv.mod⟩))
    replace dq:=dq.symm;exact .ae 21 rfl (aL Tryz.func83 rfl rfl (aj.mk ⟨⟨_,pT,rfl⟩,cv.mod⟩))
   replace c':=c'.symm;exact .ae 26 rfl (aL Tryz.func83 rfl rfl (aj.mk ⟨⟨_,pT,rfl⟩,bR.mod⟩))
  replace cy:=cy.symm;exact .ae 36 rfl (aL Tryz.func83 rfl rfl (aj.mk ⟨⟨_,pT,rfl⟩,b2.mod⟩))
 replace bc:=bc.symm;exact .ae 43 rfl (aL Tryz.func83 rfl rfl (aj.mk ⟨⟨_,pT,rfl⟩,bJ.mod⟩))
end Go.Proofs
namespace Go.Proofs
open Go.aA Go.ab
theorem Md {w0:World}  (k:Int) (Ac:bp k) (hk:0≤k∧k≤4) :
 Calls Tryz.prog 177 #[.int .i64 k] w0 (aj fun aD ai=>(∃ b4:Bool,b4=true∧aD=.bool b4)∧Ext w0 ai):=by
 have ba:Ext w0 w0:=Mod.refl _ _;exact bS Tryz.func177 rfl Tryz.ntmps177 rfl (.go 7 rfl (.By (.ge rfl rfl) (by exact decide_eq_true (by omega)) (.go 2 rfl (.By (.le rfl rfl) (by exact decide_eq_true (by omega)) (.ae 3 rfl (aL Tryz.func177 rfl rfl (aj.mk ⟨⟨_,(by rfl),rfl⟩,ba⟩)))))))
theorem gk {p:Prop} (h:p:=by omega):p:=h
theorem Ea {p:Prop} (h:p:=by first|exact Eb.trans (acf a7 (by omega))|(rw [Me]; exact aci a7 (by omega))|(exfalso; omega)):p:=h
theorem B1 {p:Prop} (h:p:=by first|omega|(exfalso; omega)):p:=h
theorem UJ {w0:World}  {kR:Value} {q:List Int} (k:Int) {jd:Value} {s:List Pos} (uu:ak ie w0 (aR 0 w0.heap.size) kR q) (Ac:bp k) (jX:ak ke w0 (aR 0 w0.heap.size) jd s) (hk:0≤k∧k≤4) (dL:q.length≤1000) (hc:s.length≤1000) :
 Calls Tryz.prog 178 #[kR,.int .i64 k,jd] w0 (aj fun aD ai=>(∃ cZ,Acc aA.encI 3 1 ai cZ aD (gJ q.length (dg q.length k s))∧(cZ=0∨w0.heap.size < cZ))∧Ext w0 ai):=by
 have ba:Ext w0 w0:=Mod.refl _ _;have fg:=uu.le;have lx:=jX.le;refine bS Tryz.func178 rfl Tryz.ntmps178 rfl (.go 7 rfl (.z (.ca Tryz.underlying179 (uu) rfl) ?_));refine .z (.bZ (((q.length+1:Nat):Int)) rfl rfl gk) (.ac (.makeSlice (enc:=aA.encI) (q.length+1) (0:Int) Tryz.underlying57 aP (by decide) rfl aA.fy rfl rfl gk gk gk (by unfold maxLen; omega) fun v1 g1 ai au cf c9 b7=>have f1:=uu.ext au;have f2:=jX.ext au;have bf:=ba.ext au;have dW:=au.size;have bK:(List.replicate (q.length+1) (0:Int)).length=q.length+1:=List.length_replicate;.go 6 rfl ?_));refine .z (.ca Tryz.underlying57 (b7.bl) rfl) (.ae 3 rfl (dU (I:=fun m E W=>∃ (i:Nat) (row:List Int),E=[(0,kR),(1,.int .i64 k),(2,jd),(7,v1),(17,.int .i64 (((((List.replicate (q.length+1) (0:Int))).length:Nat):Int))),(18,.int .i64 (((i:Nat):Int)))]∧m=q.length+1-i∧Ext w0 W∧ai.heap.size≤W.heap.size∧ak ie W (aR 0 w0.heap.size) kR q∧ak ke W (aR 0 w0.heap.size) jd s∧Acc aA.encI 3 1 W g1 v1 row∧(row=gJ q.length fun j=>if j < i then k+1 else 0)∧(row.length=q.length+1)) ?_ ?_))
 · refine ⟨_,_,⟨(0:Nat),((List.replicate (q.length+1) (0:Int)):List Int),rfl,rfl,bf,Nat.le_refl _,f1,f2,b7,(by exact aca _ _),(by simp)⟩,⟨rfl,rfl,rfl,rfl,rfl,rfl,trivial⟩⟩
 · rintro _ _ aZ ⟨i,row,rfl,rfl,bk,e7,f3,f4,f5,va,ra⟩ bV;refine .go 2 rfl (.aX (.lt rfl rfl) (fun aJ=>?_) fun aJ=>?_)
   · refine .go 15 rfl (.z (.bZ ((k+1)) rfl rfl (by omega)) ?_);obtain ⟨c_,aw,a7⟩:=Acc.at (P:=Tryz.prog) f5 Tryz.underlying57 aP (k:=.i64) (n:=((i:Nat):Int)) (i) gk (by first|assumption|omega|(simp; done));refine .z (.indexAddr rfl rfl c_) (have dG:=f5.lt;.ac (.rT f5 aA.fy (i:=i) (o:=0) a7 ((k+1)) aP rfl gk rfl rfl rfl rfl (by decide) (by first|rfl|simp [aA.encI]) fun bz ax eY dH=>have e1:=f5.lt;have f6:=f3.bt ax (by omega);have f7:=f4.bt ax (by omega);have bD:=Ext.hq bk ax (by omega);have hx:=ax.size;have b6:(row.set i ((k+1))).length=row.length:=List.length_set;.go 3 rfl ?_));exact .z (.bZ (((i+1:Nat):Int)) rfl rfl gk) (.ae 2 rfl ((bV _ _ _ ⟨(i+1:Nat),((row.set i ((k+1))):List Int),rfl,rfl,bD,gk,f6,f7,dH,(by first|exact acb va gk|(exfalso; omega)),(by first|(simp only [List.length_set]; omega)|(exfalso; omega))⟩ gk).sub ⟨rfl,rfl,rfl,rfl,rfl,rfl,trivial⟩))
   refine .go 8 rfl (.z (.ca Tryz.underlying225 (f4) rfl) (.ae 3 rfl ?_));refine dU (I:=fun m E W=>∃ (j:Nat) (wX:List Int),E=[(0,kR),(1,.int .i64 k),(7,v1),(27,jd),(28,.int .i64 (((s.length:Nat):Int))),(29,.int .i64 (((j:Nat):Int)))]∧m=s.length-j∧Ext w0 W∧aZ.heap.size≤W.heap.size∧ak ie W (aR 0 w0.heap.size) kR q∧Acc aA.encI 3 1 W g1 v1 wX∧ak ke W (aR 0 w0.heap.size) jd s∧(wX=gJ q.length (dg q.length k (s.take j)))∧(wX.length=q.length+1)) ?_ ?_
   · refine ⟨_,_,⟨(0:Nat),(row:List Int),rfl,rfl,bk,Nat.le_refl _,f3,f5,f4,(by first|exact acd va gk),gk⟩,⟨rfl,rfl,rfl,rfl,rfl,rfl,trivial⟩⟩
   · rintro _ _ bz ⟨j,wX,rfl,rfl,bD,hx,f6,f7,f8,Eb,akX⟩ fk;refine .go 2 rfl (.aX (.lt rfl rfl) (fun aK=>?_) fun aK=>?_)
     · refine .ae 2 rfl ?_;obtain ⟨aw,bn,fE,a7,c_,b6,iR,cV⟩:=ak.ft (P:=Tryz.prog) f8 Tryz.underlying225 zJ St (k:=.i64) (n:=((j:Nat):Int)) (j) gk aU;refine .go 6 rfl (.z (.indexAddr rfl rfl c_) (.z (.c4 zJ rfl (fun _ e=>e▸cV) rfl) ?_));refine .ac (.alloc zJ fun cj bj ax aV eY a1=>have dG:=f7.lt;have f9:=f6.ext ax;have f10:=f7.ext ax;have f11:=f8.ext ax;have ek:=bD.ext ax;have je:=ax.size;.ac (.st zJ a1 fun cM aM bH=>?_));replace bH:ez cM bj [.int .i64 aw.at_,.int .i64 aw.cd] 268:=bH;have e1:=f10.lt;have f12:=f9.bt aM (by omega);have f13:=f10.bt aM (by omega);have f14:=f11.bt aM (by omega);have fq:=Ext.hq ek aM (by omega);have lv:=aM.size;refine .go 4 rfl (.a_ BK aP bH (.aX (.lt rfl rfl) (fun bc=>?_) fun bc=>?_))
       · refine .go 22 rfl (.z (.bZ (((j+1:Nat):Int)) rfl rfl gk) (.ae 2 rfl ?_));exact (fk _ _ _ ⟨(j+1:Nat),(wX:List Int),rfl,rfl,fq,gk,f12,f13,f14,Ea,B1⟩ gk).sub ⟨rfl,rfl,rfl,rfl,rfl,rfl,trivial⟩
       refine .go 1 rfl (.a_ BK aP bH (.go 1 rfl ?_));refine .z (.ca Tryz.underlying179 (f12) rfl) (.aX (.gt rfl rfl) (fun cy=>?_) fun cy=>?_)
       · refine .go 16 rfl (.z (.bZ (((j+1:Nat):Int)) rfl rfl gk) (.ae 2 rfl ?_));exact (fk _ _ _ ⟨(j+1:Nat),(wX:List Int),rfl,rfl,fq,gk,f12,f13,f14,Ea,B1⟩ gk).sub ⟨rfl,rfl,rfl,rfl,rfl,rfl,trivial⟩
       refine .go 2 rfl (.a_ K5 aP bH (.aX (.lt rfl rfl) (fun ck=>?_) fun ck=>?_))
       · refine .go 11 rfl (.z (.bZ (((j+1:Nat):Int)) rfl rfl gk) (.ae 2 rfl ?_));exact (fk _ _ _ ⟨(j+1:Nat),(wX:List Int),rfl,rfl,fq,gk,f12,f13,f14,Ea,B1⟩ gk).sub ⟨rfl,rfl,rfl,rfl,rfl,rfl,trivial⟩
       refine .go 2 rfl (.a_ K5 aP bH (.go 1 rfl ?_));refine .aX (.gt rfl rfl) (fun c'=>?_) fun c'=>?_
       · refine .go 5 rfl (.z (.bZ (((j+1:Nat):Int)) rfl rfl gk) (.ae 2 rfl ?_));exact (fk _ _ _ ⟨(j+1:Nat),(wX:List Int),rfl,rfl,fq,gk,f12,f13,f14,Ea,B1⟩ gk).sub ⟨rfl,rfl,rfl,rfl,rfl,rfl,trivial⟩
       refine .go 6 rfl (.a_ BK aP bH (.go 1 rfl ?_));refine .z (.il ((aw.at_-k)) rfl rfl gk) (.z (.max rfl rfl) (.ae 3 rfl ?_));refine dU (I:=fun m E W=>∃ (i:Int) (ym:List Int),E=[(0,kR),(1,.int .i64 k),(7,v1),(10,ptr bj 0),(11,.int .i64 i),(27,jd),(28,.int .i64 (((s.length:Nat):Int))),(29,.int .i64 (((j:Nat):Int)))]∧m=(3000-i).toNat∧Ext w0 W∧cM.heap.size≤W.heap.size∧ak ie W (aR 0 w0.heap.size) kR q∧Acc aA.encI 3 1 W g1 v1 ym∧ez W bj [.int .i64 aw.at_,.int .i64 aw.cd] 268∧ak ke W (aR 0 w0.heap.size) jd s∧bj+1≠g1∧(ym=gJ q.length (r4 q.length k s j i))∧(ym.length=q.length+1)∧(0≤i∧i≤3000∧aw.at_-k≤i)) ?_ ?_
       · refine ⟨_,_,⟨((max ((aw.at_-k)) 0):Int),(wX:List Int),rfl,rfl,fq,Nat.le_refl _,f12,f13,bH,f14,gk,(by rw [Eb]; exact acg a7 rfl),gk,gk⟩,⟨rfl,rfl,rfl,rfl,rfl,rfl,rfl,rfl,trivial⟩⟩
       · rintro _ _ de ⟨i,ym,rfl,rfl,h9,o6,f15,f16,f17,f18,nU,Me,akY,D1⟩ Mf;refine .go 4 rfl (.a_ BK aP f17 (.go 1 rfl ?_));refine .z (.bZ ((aw.at_+k)) rfl rfl gk) (.go 1 rfl (.z (.ca Tryz.underlying179 (f15) rfl) ?_));refine .z (.min rfl rfl) (.aX (.le rfl rfl) (fun dq=>?_) fun dq=>?_)
         · refine .ae 5 rfl (fx (fun i=>Nat.beq i 20) 20 (fun ah=>Mod (b5 0) de ah) mixed (by kernel_rfl) fun dv aW=>have f':=f16.lt;have f19:=f15.ext aW;have f20:=f16.ext aW;have f21:=f17.ext aW;have f22:=f18.ext aW;have jm:=h9.ext aW;have qp:=aW.size;have lY:Mod (b5 0) de dv:=Mod.gW aW;⟨lY,?_⟩);rw [show List.range' 0 (Array.size _)=[0,1,2,3,4,5,6,7,8,9,10,11,12,13,14,15,16,17,18,19,20] from rfl];obtain ⟨x2,j3,iv,cY,fM,hU,qo,eL⟩:=ak.ft (P:=Tryz.prog) f16.bl Tryz.underlying57 aP aA.fy (k:=.i64) (n:=i) ((i).toNat) gk aU;refine .gd 4 rfl (.z rfl (.indexAddr rfl rfl fM) (have Mg:=qj (Me▸cY);have af2:=ack (n:=q.length) (s:=s) (j:=j) (i:=i) (x:=i.toNat) hk.1;.z rfl (.cT aP rfl (fun _ an=>eL.bt an gk)) ?_));refine .z rfl (.fieldAddr K5 rfl) (.z rfl (.cT aP rfl (fun _ an=>(f17.cell 1 _ rfl).bt an gk)) (.gd 1 rfl ?_));refine .z rfl (.fieldAddr BK rfl) (.z rfl (.cT aP rfl (fun _ an=>(f17.cell 0 _ rfl).bt an gk)) (.z rfl (.il ((i-aw.at_)) rfl rfl gk) ?_));refine .z rfl (.fieldAddr BK rfl) (.z rfl (.cT aP rfl (fun _ an=>(f17.cell 0 _ rfl).bt an gk)) (.gd 1 rfl ?_));refine .z rfl (.il ((aw.at_-i)) rfl rfl gk) (.z rfl (.max rfl rfl) (.z rfl (.bZ ((aw.cd+((max ((i-aw.at_)) ((aw.at_-i)))))) rfl rfl gk) ?_));refine .z rfl (.min rfl rfl) ?_;obtain ⟨iK,fA,hM⟩:=Acc.at (P:=Tryz.prog) f16 Tryz.underlying57 aP (k:=.i64) (n:=i) ((i).toNat) gk (by first|assumption|omega|(simp; done));refine .z rfl (.indexAddr rfl rfl iK) (have jy:=f20.lt;.ac rfl (.rT f20 aA.fy (i:=((i).toNat)) (o:=0) hM ((min x2 ((aw.cd+((max ((i-aw.at_)) ((aw.at_-i)))))))) aP rfl gk rfl rfl rfl rfl (by decide) (by first|rfl|simp [aA.encI]) fun en bh gT dH=>have kj:=f20.lt;have f23:=f19.bt bh (by omega);have f24:=f21.bt bh (by omega);have f25:=f22.bt bh (by omega);have mW:=Ext.hq jm bh (by omega);have wL:=bh.size;⟨.inl rfl,?_⟩));have h4:(ym.set ((i).toNat) ((min x2 ((aw.cd+((max ((i-aw.at_)) ((aw.at_-i))))))))).length=ym.length:=List.length_set;refine .nil (.go 3 rfl (.z (.bZ ((i+1)) rfl rfl gk) ?_));exact .ae 2 rfl ((Mf _ _ _ ⟨((i+1):Int),((ym.set ((i).toNat) ((min x2 ((aw.cd+((max ((i-aw.at_)) ((aw.at_-i))))))))):List Int),rfl,rfl,mW,gk,f23,dH,f24,f25,gk,(by first|(subst Me; exact ach a7 gk gk gk gk gk cY)|(exfalso; omega)),(by first|(simp only [List.length_set]; omega)|(exfalso; omega)),B1⟩ gk).sub ⟨rfl,rfl,rfl,rfl,rfl,rfl,rfl,rfl,trivial⟩)
         refine .go 5 rfl (.z (.bZ (((j+1:Nat):Int)) rfl rfl gk) (.ae 2 rfl ?_));exact (fk _ _ _ ⟨(j+1:Nat),(ym:List Int),rfl,rfl,h9,gk,f15,f16,f18,Ea,B1⟩ gk).sub ⟨rfl,rfl,rfl,rfl,rfl,rfl,trivial⟩
     exact .ae 9 rfl (aL Tryz.func178 rfl rfl (aj.mk ⟨⟨_,Acc.cast f7 (by first|exact acj Eb gk|(exfalso; omega)),by omega⟩,bD⟩))
theorem af3 {w0:World}  {jd:Value} {s:List Int} (jX:ak aA.encI w0 (aR 0 w0.heap.size) jd s) (Hi:s.length≤1000000) :
 Calls Tryz.prog 180 #[jd] w0 (aj fun aD ai=>(∃ cZ,Acc aA.encI 3 1 ai cZ aD (s)∧(cZ=0∨w0.heap.size < cZ))∧Ext w0 ai):=by
 have ba:Ext w0 w0:=Mod.refl _ _;have fg:=jX.le;refine bS Tryz.func180 rfl Tryz.ntmps180 rfl ?_;obtain ⟨br,bs,ej,c9⟩:=ak.isNil (jX);refine .go 8 rfl ?_;subst ej;refine .ev (.JB Tryz.underlying57 rfl rfl) fun aG aJ=>.ae 1 rfl ?_
 cases aG
 case true =>
  replace aJ:=aJ.symm;replace c9:=c9 aJ;exact .ae 5 rfl (aL Tryz.func180 rfl rfl (aj.mk ⟨⟨0,Acc.cast Acc.nil (by first|(symm; assumption)|simp|(exfalso; omega)),.inl rfl⟩,ba⟩))
 replace aJ:=aJ.symm;exact .go 4 rfl (.ac (.buildSlice [] Tryz.underlying57 aP rfl rfl rfl (by decide) fun ai aN au aK eY a1=>have f1:=jX.ext au;have bf:=ba.ext au;have dW:=au.size;have b6:=Acc.eP (enc:=aA.encI) a1 ([]:List Int) 0 rfl aA.fy rfl (by unfold maxLen; omega);have dG:=b6.lt;.go 1 rfl (.ac (.append b6 Tryz.underlying57 aP rfl aA.fy aA.Cx rfl rfl (f1) ol gA fun v1 g1 aZ b7 ax cf gh=>have e1:=b6.lt;have bk:=Ext.hq bf ax (by omega);have e7:=ax.size;.ae 2 rfl (aL Tryz.func180 rfl rfl (aj.mk ⟨⟨_,Acc.cast b7 (by first|(symm; assumption)|simp|(exfalso; omega)),by omega⟩,bk⟩))))))
theorem jr {p:Prop} (h:p:=by omega):p:=h
theorem Mh {p:Prop} (h:p:=by first|exact acy B2 (by omega) (by omega)|exact acA B2 (by omega) (by omega) Mg.1 zW.1 (by assumption) (by assumption)|exact acB B2 (by omega) (by omega) Mg.1 zW.1 (by assumption)|(exfalso; omega)):p:=h
theorem Mi {p:Prop} (h:p:=by first|exact acn a' (by omega)|exact aco a' (Sv B2 (fun x=>(Ec x).1) (by omega) (by omega))|exact acp a' (by omega) (Sv B2 (fun x=>(Ec x).1) (by omega) (by omega)) zW.1|(exfalso; omega)):p:=h
theorem B3 {p:Prop} (h:p:=by first|omega|(exfalso; omega)):p:=h
theorem af4 {w0:World} {n:Nat} {f:Nat→Int} {yn:Value} {row:List Int} (k:Int) (Mj:ak aA.encI w0 (aR 0 w0.heap.size) yn row) (Ac:bp k) (hk:0≤k∧k≤4) (va:row=gJ n f) (Ec:∀ x,0≤f x∧f x≤k+1) (aI:n≤1000) :
 Calls Tryz.prog 181 #[yn,.int .i64 k] w0 (aj fun aD ai=>(∃ cZ,Acc ke 268 2 ai cZ aD (e6 (n+1) k f)∧(cZ=0∨w0.heap.size < cZ))∧Ext w0 ai):=by
 have ba:Ext w0 w0:=Mod.refl _ _;have fg:=Mj.le;have ra:row.length=n+1:=(by rw [va]; exact GJ n f);refine bS Tryz.func181 rfl Tryz.ntmps181 rfl (.go 12 rfl (.z (.ca Tryz.underlying57 (Mj) rfl) (.ae 3 rfl (dU (I:=fun m E W=>∃ (fQ:Value) (fN:Nat) (l:List Pos) (j:Nat),E=[(0,yn),(1,.int .i64 k),(5,fQ),(10,yn),(11,.int .i64 (((row.length:Nat):Int))),(12,.int .i64 (((j:Nat):Int)))]∧m=row.length-j∧Ext w0 W∧w0.heap.size≤W.heap.size∧Acc ke 268 2 W fN fQ l∧(fN=0∨w0.heap.size < fN)∧ak aA.encI W (aR 0 w0.heap.size) yn row∧(l=stateT (n+1) k f j)∧(j≤row.length)∧(l.length≤j)) ?_ ?_))))
 · refine ⟨_,_,⟨(.slice none 0 0:Value),(0:Nat),([]:List Pos),(0:Nat),rfl,rfl,ba,Nat.le_refl _,Acc.nil,jr,Mj,(by rfl),jr,(by exact Nat.zero_le _)⟩,⟨rfl,rfl,rfl,rfl,rfl,rfl,trivial⟩⟩
 · rintro _ _ ai ⟨fQ,fN,l,j,rfl,rfl,bf,dW,b7,cf,f1,a',LU,pk⟩ bV;refine .go 2 rfl (.aX (.lt rfl rfl) (fun aJ=>?_) fun aJ=>?_)
   · refine .ae 2 rfl ?_;obtain ⟨aw,aN,fE,a7,bK,b6,iR,cV⟩:=ak.ft (P:=Tryz.prog) f1 Tryz.underlying57 aP aA.fy (k:=.i64) (n:=((j:Nat):Int)) (j) jr aU;refine .go 7 rfl (.z (.indexAddr rfl rfl bK) (have zW:=qj (va▸a7);have UK:=Ec j;.z (.dT aP cV) (.go 8 rfl (.aX (.gt rfl rfl) (fun aK=>?_) fun aK=>?_))))
     · exact .go 4 rfl (.z (.bZ (((j+1:Nat):Int)) rfl rfl jr) (.ae 2 rfl ((bV _ _ _ ⟨(fQ:Value),(fN:Nat),(l:List Pos),(j+1:Nat),rfl,rfl,bf,jr,b7,jr,f1,Mi,B3,(by first|omega|(simp only [List.length_append,List.length_cons,List.length_nil]; omega)|(exfalso; omega))⟩ jr).sub ⟨rfl,rfl,rfl,rfl,rfl,rfl,trivial⟩)))
     refine .go 12 rfl (.z (.il ((((j:Nat):Int)-k)) rfl rfl jr) (.z (.max rfl rfl) (.ae 3 rfl (dU (I:=fun m E W=>∃ (b:Bool) (i:Int),E=[(0,yn),(1,.int .i64 k),(5,fQ),(6,.int .i64 (((j:Nat):Int))),(7,.int .i64 aw),(8,.bool b),(9,.int .i64 i),(10,yn),(11,.int .i64 (((row.length:Nat):Int))),(12,.int .i64 (((j:Nat):Int)))]∧m=(3000-i).toNat∧Ext w0 W∧ai.heap.size≤W.heap.size∧ak aA.encI W (aR 0 w0.heap.size) yn row∧Acc ke 268 2 W fN fQ l∧(b=pC (n+1) f j i)∧(0≤i∧i≤3000)) ?_ ?_))))
     · refine ⟨_,_,⟨(false:Bool),((max ((((j:Nat):Int)-k)) 0):Int),rfl,rfl,bf,Nat.le_refl _,f1,b7,(by exact acm (fun x=>(Ec x).1) jr rfl),jr⟩,⟨rfl,rfl,rfl,rfl,rfl,rfl,rfl,rfl,rfl,rfl,trivial⟩⟩
     · rintro _ _ aZ ⟨b,i,rfl,rfl,bk,e7,f2,f3,B2,D1⟩ fk;refine .go 6 rfl (.z (.bZ ((((j:Nat):Int)+k)) rfl rfl jr) (.go 1 rfl (.z (.ca Tryz.underlying57 (f2) rfl) (.z (.il ((((row.length:Nat):Int)-1)) rfl rfl jr) (.z (.min rfl rfl) (.aX (.le rfl rfl) (fun aV=>?_) fun aV=>?_))))))
       · refine .go 8 rfl ?_;cases b
         case true =>
          exact .go 28 rfl (.z (.bZ ((i+1)) rfl rfl jr) (.ae 2 rfl ((fk _ _ _ ⟨(true:Bool),((i+1):Int),rfl,rfl,bk,jr,f2,f3,Mh,B3⟩ jr).sub ⟨rfl,rfl,rfl,rfl,rfl,rfl,rfl,rfl,rfl,rfl,trivial⟩)))
         obtain ⟨x2,cR,iv,cY,c_,dG,qo,eL⟩:=ak.ft (P:=Tryz.prog) f2 Tryz.underlying57 aP aA.fy (k:=.i64) (n:=i) ((i).toNat) jr aU;refine .go 2 rfl (.z (.indexAddr rfl rfl c_) (have Mg:=qj (va▸cY);have af2:=Ec i.toNat;.z (.dT aP eL) (.go 1 rfl (.aX (.lt rfl rfl) (fun bc=>?_) fun bc=>?_))))
         · refine .go 3 rfl (.z (.il ((i-(((j:Nat):Int)))) rfl rfl jr) (.go 2 rfl (.z (.il ((((j:Nat):Int)-i)) rfl rfl jr) (.z (.max rfl rfl) ?_))));obtain ⟨fA,hy,pP,hM,fM,e1,B4,jn⟩:=ak.ft (P:=Tryz.prog) f2 Tryz.underlying57 aP aA.fy (k:=.i64) (n:=i) ((i).toNat) jr aU;obtain rfl:x2=fA:=Option.some.inj (cY.symm.trans hM);exact .go 3 rfl (.z (.indexAddr rfl rfl fM) (.z (.dT aP jn) (.z (.il ((aw-x2)) rfl rfl jr) (.ev (.le rfl rfl) fun h5 cy=>.go 7 rfl (.z (.bZ ((i+1)) rfl rfl jr) (.ae 2 rfl ((fk _ _ _ ⟨(h5:Bool),((i+1):Int),rfl,rfl,bk,jr,f2,f3,Mh,B3⟩ jr).sub ⟨rfl,rfl,rfl,rfl,rfl,rfl,rfl,rfl,rfl,rfl,trivial⟩)))))))
         exact .go 22 rfl (.z (.bZ ((i+1)) rfl rfl (by omega)) (.ae 2 rfl ((fk _ _ _ ⟨(false:Bool),((i+1):Int),rfl,rfl,bk,jr,f2,f3,Mh,B3⟩ jr).sub ⟨rfl,rfl,rfl,rfl,rfl,rfl,rfl,rfl,rfl,rfl,trivial⟩)))
       refine .go 6 rfl ?_;cases b
       case true =>
        exact .z (.not rfl) (.go 5 rfl (.z (.bZ (((j+1:Nat):Int)) rfl rfl jr) (.ae 2 rfl ((bV _ _ _ ⟨(fQ:Value),(fN:Nat),(l:List Pos),(j+1:Nat),rfl,rfl,bk,jr,f3,jr,f2,Mi,B3,(by first|omega|(simp only [List.length_append,List.length_cons,List.length_nil]; omega)|(exfalso; omega))⟩ jr).sub ⟨rfl,rfl,rfl,rfl,rfl,rfl,trivial⟩))))
       exact .z (.not rfl) (.go 6 rfl (.z (.build (vs:=#[(0,(.int .i64 (((j:Nat):Int)):Value)),(1,(.int .i64 aw:Value))]) (v:=.agg #[.int .i64 (((j:Nat):Int)),.int .i64 aw]) rfl (fun _=>by kernel_rfl)) (.ac (.buildSlice [(.agg #[.int .i64 (((j:Nat):Int)),.int .i64 aw]:Value)] Tryz.underlying225 zJ rfl rfl rfl (by decide) fun bz cR au bc c9 a1=>have dG:=f3.lt;have f4:=f2.ext au;have f5:=f3.ext au;have bD:=bk.ext au;have hx:=au.size;have e1:=ak.eP (enc:=ke) a1 ([(Pos.mk (((j:Nat):Int)) aw)]:List Pos) 1 rfl rfl (by unfold maxLen; omega);have f':=f5.lt;.ac (.append f5 Tryz.underlying225 zJ rfl St ab' rfl rfl (e1) ol gA fun v1 g1 cj dH ax eA eY=>have hU:=f5.lt;have f6:=f4.bt ax (by omega);have ek:=Ext.hq bD ax (by omega);have je:=ax.size;.go 4 rfl (.z (.bZ (((j+1:Nat):Int)) rfl rfl jr) (.ae 2 rfl ((bV _ _ _ ⟨(v1:Value),(g1:Nat),((l++[(Pos.mk (((j:Nat):Int)) aw)]):List Pos),(j+1:Nat),rfl,rfl,ek,jr,dH,jr,f6,Mi,B3,(by first|omega|(simp only [List.length_append,List.length_cons,List.length_nil]; omega)|(exfalso; omega))⟩ jr).sub ⟨rfl,rfl,rfl,rfl,rfl,rfl,trivial⟩))))))))
   exact .ae 9 rfl (aL Tryz.func181 rfl rfl (aj.mk ⟨⟨_,Acc.cast b7 (by first|(rw [a',show j=n+1 from by omega]; rfl)|(exfalso; omega)),by omega⟩,bf⟩))
theorem af5 {w0:World}  {kR:Value} {q:List Int} (k:Int) (uu:ak ie w0 (aR 0 w0.heap.size) kR q) (Ac:bp k) (hk:0≤k∧k≤4) :
 Calls Tryz.prog 142 #[kR,.int .i64 k] w0 (aj fun aD ai=>ak ke ai (aR w0.heap.size ai.heap.size) aD ([Pos.mk 0 0])∧Ext w0 ai):=by
 have ba:Ext w0 w0:=Mod.refl _ _;have fg:=uu.le;refine bS Tryz.func142 rfl Tryz.ntmps142 rfl (.go 8 rfl (.ac (.aE Lc rfl (Md (w0:=w0)  (k) cu aU) ?_)));rintro _ ai ⟨⟨_,rfl,rfl⟩,au⟩;have bf:=ba.ext au;have dW:=au.size;exact .z (.not rfl) (.go 5 rfl (.z (.build (vs:=#[]) (v:=.agg #[.int .i64 0,.int .i64 0]) rfl (fun _=>by kernel_rfl)) (.ac (.buildSlice [(.agg #[.int .i64 0,.int .i64 0]:Value)] Tryz.underlying225 zJ rfl rfl rfl (by decide) fun aZ aG ax aJ c9 a1=>have bk:=bf.ext ax;have e7:=ax.size;have b6:=ak.eP (enc:=ke) a1 ([(Pos.mk 0 0)]:List Pos) 1 rfl rfl (by unfold maxLen; omega);.ae 2 rfl (aL Tryz.func142 rfl rfl (aj.mk ⟨(ak.cast (b6.b0 (by omega) (by omega)) (by rfl)),bk⟩))))))
theorem ix {p:Prop} (h:p:=by omega):p:=h
theorem UL {p:Prop} (h:p:=by first|(subst HQ; first|exact Sw (by omega) lz wY ia (by rw [if_pos (by rw [hM]; congr 1)]; omega)|exact Sw (by omega) lz wY ia (by rw [if_neg (by rw [hM]; intro e; cases e; omega)]))|(exfalso; omega)):p:=h
theorem HR {w0:World}  {kR:Value} {q:List Int} (k:Int) {jd:Value} {s:List Pos} (r:Int) (uu:ak ie w0 (aR 0 w0.heap.size) kR q) (Ac:bp k) (jX:ak ke w0 (aR 0 w0.heap.size) jd s) (UM:-2147483648≤r∧r≤2147483647) (hk:0≤k∧k≤4) (dL:q.length≤1000) (hc:s.length≤1000) :
 Calls Tryz.prog 146 #[kR,.int .i64 k,jd,.int .i32 r] w0 (aj fun aD ai=>(∃ cZ,Acc ke 268 2 ai cZ aD (e6 (q.length+1) k (e0 k q (dg q.length k s) r))∧(cZ=0∨w0.heap.size < cZ))∧Ext w0 ai):=by
 have ba:Ext w0 w0:=Mod.refl _ _;have fg:=uu.le;have lx:=jX.le;refine bS Tryz.func146 rfl Tryz.ntmps146 rfl (.go 8 rfl (.ac (.aE Lc rfl (Md (w0:=w0)  (k) cu aU) ?_)));rintro _ ai ⟨⟨_,rfl,rfl⟩,au⟩;have f1:=uu.ext au;have f2:=jX.ext au;have bf:=ba.ext au;have dW:=au.size;refine .z (.not rfl) (.go 8 rfl (.ac (.aE TQ rfl (UJ (w0:=ai) (q:=q) (s:=s) (k) ((f1).b0 (Nat.zero_le _) ix) cu ((f2).b0 (Nat.zero_le _) ix) aU aU aU) ?_)));rintro v1 aZ ⟨⟨h2,h1,cf⟩,ax⟩;have f3:=f1.ext ax;have bk:=bf.ext ax;have e7:=ax.size;have jl:=h1.le;have q8:=h1.lt;have ra:=GJ q.length (dg q.length k s);refine .go 5 rfl (.ac (.aE aez rfl (af3 (w0:=aZ) (s:=(gJ q.length (dg q.length k s)))  ((h1.bl).b0 (Nat.zero_le _) ix) aU) ?_));rintro v2 bz ⟨⟨oc,aa,eA⟩,aM⟩;have b6:=h1.lt;have f5:=f3.ext aM;have f7:=h1.ext aM;have bD:=bk.ext aM;have hx:=aM.size;have n_:=aa.le;have ye:=aa.lt;obtain ⟨aw,aG,fE,a7,bK,dG,iR,cV⟩:=ak.ft (P:=Tryz.prog) f7.bl Tryz.underlying57 aP aA.fy (k:=.i64) (n:=0) (0) ix aU;refine .go 6 rfl (.z (.indexAddr rfl rfl bK) (have zW:=qj a7;have UK:=wz (n:=q.length) hk.1 s 0;.z (.dT aP cV) (.z (.bZ ((aw+1)) rfl rfl (by omega)) (.go 1 rfl (.z (.bZ ((k+1)) rfl rfl (by omega)) (.z (.min rfl rfl) ?_))))));obtain ⟨c_,x2,cY⟩:=Acc.at (P:=Tryz.prog) aa Tryz.underlying57 aP (k:=.i64) (n:=0) (0) ix (by first|assumption|omega|(simp; done));refine .z (.indexAddr rfl rfl c_) (have f':=aa.lt;.ac (.rT aa aA.fy (i:=0) (o:=0) cY ((min ((aw+1)) ((k+1)))) aP rfl ix rfl rfl rfl rfl (by decide) (by first|rfl|simp [aA.encI]) fun cj aW c9 b7=>have hU:=f7.lt;have h4:=aa.lt;have f8:=f5.bt aW (by omega);have f10:=f7.bt aW (by omega);have ek:=Ext.hq bD aW (by omega);have je:=aW.size;have e1:(((((gJ q.length (dg q.length k s))))).set 0 ((min ((aw+1)) ((k+1))))).length=((((gJ q.length (dg q.length k s))))).length:=List.length_set;.go 5 rfl (.z (.ca Tryz.underlying179 (f8) rfl) (.ae 3 rfl (dU (I:=fun m E W=>∃ (i:Nat) (uv:List Int),E=[(1,.int .i64 k),(3,.int .i32 r),(9,v1),(10,v2),(32,kR),(33,.int .i64 (((q.length:Nat):Int))),(34,.int .i64 (((i:Nat):Int)))]∧m=q.length-i∧Ext w0 W∧cj.heap.size≤W.heap.size∧Acc aA.encI 3 1 W h2 v1 ((gJ q.length (dg q.length k s)))∧Acc aA.encI 3 1 W oc v2 uv∧ak ie W (aR 0 w0.heap.size) kR q∧(oc≠h2∨h2=0)∧(uv=gJ q.length (qk q.length k q s r i))∧(uv.length=q.length+1)) ?_ ?_)))))
 · refine ⟨_,_,⟨(0:Nat),((((((gJ q.length (dg q.length k s))))).set 0 ((min ((aw+1)) ((k+1))))):List Int),rfl,rfl,ek,Nat.le_refl _,f10,b7,f8,ix,(by exact acs a7),(by (simp only [List.length_set]; omega))⟩,⟨rfl,rfl,rfl,rfl,rfl,rfl,rfl,trivial⟩⟩
 · rintro _ _ cM ⟨i,uv,rfl,rfl,fq,lv,f11,f12,f13,nU,HQ,akZ⟩ bV;refine .go 2 rfl (.aX (.lt rfl rfl) (fun aJ=>?_) fun aJ=>?_)
   · refine .ae 2 rfl ?_;obtain ⟨fA,bn,iv,hM,fM,jy,qo,eL⟩:=ak.ft (P:=Tryz.prog) f13 Tryz.underlying179 hn nQ (k:=.i64) (n:=((i:Nat):Int)) (i) ix aU;refine .go 7 rfl (.z (.indexAddr rfl rfl fM) (.z (.dT hn eL) ?_));obtain ⟨fc,bj,pP,ia,iK,kj,B4,jn⟩:=ak.ft (P:=Tryz.prog) f11.bl Tryz.underlying57 aP aA.fy (k:=.i64) (n:=((i:Nat):Int)) (i) ix aU;refine .go 7 rfl (.z (.indexAddr rfl rfl iK) (have ak0:=qj ia;have ak1:=wz (n:=q.length) hk.1 s i;.z (.dT aP jn) (.go 7 rfl (.lW (.ne rfl rfl) (fun aK=>?_) fun aK=>?_))))
     · refine .go 4 rfl (.z (.bZ ((fc+1)) rfl rfl (by omega)) (.ae 2 rfl (fx (fun i=>Nat.beq i 19) 19 (fun ah=>Mod (b5 0) cM ah) mixed (by kernel_rfl) fun de bh=>have jM:=f11.lt;have j2:=f12.lt;have f14:=f11.ext bh;have f15:=f12.ext bh;have f16:=f13.ext bh;have h9:=fq.ext bh;have o6:=bh.size;have k9:Mod (b5 0) cM de:=Mod.gW bh;⟨k9,?_⟩)));rw [show List.range' 0 (Array.size _)=[0,1,2,3,4,5,6,7,8,9,10,11,12,13,14,15,16,17,18,19] from rfl];refine .gd 2 rfl (.z rfl (.bZ (((i+1:Nat):Int)) rfl rfl ix) (.gd 2 rfl (.z rfl (.bZ (((i+1:Nat):Int)) rfl rfl ix) ?_)));obtain ⟨hN,c8,s0,lz,iL,mj,Mk,ly⟩:=ak.ft (P:=Tryz.prog) f11.bl Tryz.underlying57 aP aA.fy (k:=.i64) (n:=((i+1:Nat):Int)) (i+1) ix aU;refine .z rfl (.indexAddr rfl rfl iL) (have af6:=qj lz;have af7:=wz (n:=q.length) hk.1 s (i+1);.z rfl (.cT aP rfl (fun _ an=>ly.bt an ix)) (.z rfl (.bZ ((hN+1)) rfl rfl ix) ?_));obtain ⟨sj,hy,BR,wY,oa,s3,af8,sf⟩:=ak.ft (P:=Tryz.prog) f12.bl Tryz.underlying57 aP aA.fy (k:=.i64) (n:=((i:Nat):Int)) (i) ix aU;refine .gd 2 rfl (.z rfl (.indexAddr rfl rfl oa) (have af9:=qj (HQ▸wY);have af_:=Sy (n:=q.length) (q:=q) (r:=r) hk.1 s i i;.z rfl (.cT aP rfl (fun _ an=>sf.bt an ix)) (.z rfl (.bZ ((sj+1)) rfl rfl ix) (.gd 2 rfl (.z rfl (.bZ ((k+1)) rfl rfl ix) (.z rfl (.Oq rfl rfl rfl rfl) ?_))))));obtain ⟨sk,af',Ml⟩:=Acc.at (P:=Tryz.prog) f12 Tryz.underlying57 aP (k:=.i64) (n:=((i+1:Nat):Int)) (i+1) ix (by first|assumption|omega|(simp; done));exact .z rfl (.indexAddr rfl rfl sk) (have BS:=f15.lt;.ac rfl (.rT f15 aA.fy (i:=(i+1)) (o:=0) Ml ((min ((min ((min ((hN+1)) ((sj+1)))) ((fc+1)))) ((k+1)))) aP rfl ix rfl rfl rfl rfl (by decide) (by first|rfl|simp [aA.encI]) fun dv bQ eY dH=>have DU:=f14.lt;have DW:=f15.lt;have f17:=f14.bt bQ (by omega);have f18:=f16.bt bQ (by omega);have jm:=Ext.hq h9 bQ (by omega);have qp:=bQ.size;⟨.inl rfl,(have yc:(uv.set (i+1) ((min ((min ((min ((hN+1)) ((sj+1)))) ((fc+1)))) ((k+1))))).length=uv.length:=List.length_set;.nil (.go 2 rfl (.z (.bZ (((i+1:Nat):Int)) rfl rfl ix) (.ae 2 rfl ((bV _ _ _ ⟨(i+1:Nat),((uv.set (i+1) ((min ((min ((min ((hN+1)) ((sj+1)))) ((fc+1)))) ((k+1))))):List Int),rfl,rfl,jm,ix,f17,dH,f18,ix,UL,(by first|(simp only [List.length_set]; omega)|(exfalso; omega))⟩ ix).sub ⟨rfl,rfl,rfl,rfl,rfl,rfl,rfl,trivial⟩)))))⟩))
     refine .ae 3 rfl (fx (fun i=>Nat.beq i 19) 19 (fun ah=>Mod (b5 0) cM ah) mixed (by kernel_rfl) fun de bh=>have jM:=f11.lt;have j2:=f12.lt;have f14:=f11.ext bh;have f15:=f12.ext bh;have f16:=f13.ext bh;have h9:=fq.ext bh;have o6:=bh.size;have k9:Mod (b5 0) cM de:=Mod.gW bh;⟨k9,?_⟩);rw [show List.range' 0 (Array.size _)=[0,1,2,3,4,5,6,7,8,9,10,11,12,13,14,15,16,17,18,19] from rfl];refine .gd 2 rfl (.z rfl (.bZ (((i+1:Nat):Int)) rfl rfl ix) (.gd 2 rfl (.z rfl (.bZ (((i+1:Nat):Int)) rfl rfl ix) ?_)));obtain ⟨hN,c8,s0,lz,iL,mj,Mk,ly⟩:=ak.ft (P:=Tryz.prog) f11.bl Tryz.underlying57 aP aA.fy (k:=.i64) (n:=((i+1:Nat):Int)) (i+1) ix aU;refine .z rfl (.indexAddr rfl rfl iL) (have af6:=qj lz;have af7:=wz (n:=q.length) hk.1 s (i+1);.z rfl (.cT aP rfl (fun _ an=>ly.bt an ix)) (.z rfl (.bZ ((hN+1)) rfl rfl (by omega)) ?_));obtain ⟨sj,hy,BR,wY,oa,s3,af8,sf⟩:=ak.ft (P:=Tryz.prog) f12.bl Tryz.underlying57 aP aA.fy (k:=.i64) (n:=((i:Nat):Int)) (i) ix aU;refine .gd 2 rfl (.z rfl (.indexAddr rfl rfl oa) (have af9:=qj (HQ▸wY);have af_:=Sy (n:=q.length) (q:=q) (r:=r) hk.1 s i i;.z rfl (.cT aP rfl (fun _ an=>sf.bt an ix)) (.z rfl (.bZ ((sj+1)) rfl rfl (by omega)) (.gd 2 rfl (.z rfl (.bZ ((k+1)) rfl rfl (by omega)) (.z rfl (.Oq rfl rfl rfl rfl) ?_))))));obtain ⟨sk,af',Ml⟩:=Acc.at (P:=Tryz.prog) f12 Tryz.underlying57 aP (k:=.i64) (n:=((i+1:Nat):Int)) (i+1) ix (by first|assumption|omega|(simp; done));exact .z rfl (.indexAddr rfl rfl sk) (have BS:=f15.lt;.ac rfl (.rT f15 aA.fy (i:=(i+1)) (o:=0) Ml ((min ((min ((min ((hN+1)) ((sj+1)))) fc)) ((k+1)))) aP rfl ix rfl rfl rfl rfl (by decide) (by first|rfl|simp [aA.encI]) fun dv bQ eY dH=>have DU:=f14.lt;have DW:=f15.lt;have f17:=f14.bt bQ (by omega);have f18:=f16.bt bQ (by omega);have jm:=Ext.hq h9 bQ (by omega);have qp:=bQ.size;⟨.inl rfl,(have yc:(uv.set (i+1) ((min ((min ((min ((hN+1)) ((sj+1)))) fc)) ((k+1))))).length=uv.length:=List.length_set;.nil (.go 2 rfl (.z (.bZ (((i+1:Nat):Int)) rfl rfl ix) (.ae 2 rfl ((bV _ _ _ ⟨(i+1:Nat),((uv.set (i+1) ((min ((min ((min ((hN+1)) ((sj+1)))) fc)) ((k+1))))):List Int),rfl,rfl,jm,ix,f17,dH,f18,ix,UL,(by first|(simp only [List.length_set]; omega)|(exfalso; omega))⟩ ix).sub ⟨rfl,rfl,rfl,rfl,rfl,rfl,rfl,trivial⟩)))))⟩))
   refine .go 8 rfl (.ac (.aE aeA rfl (af4 (w0:=cM) (row:=uv) (k) ((f12.bl).b0 (Nat.zero_le _) ix) cu aU (by exact acx HQ ix) (by exact KG hk.1 (wz hk.1 s)) aU) ?_));rintro v3 de ⟨⟨qv,aq,iG⟩,bh⟩;have jy:=f11.lt;have kj:=f12.lt;have h9:=fq.ext bh;have o6:=bh.size;have s4:=aq.le;have Hw:=aq.lt;exact .ae 2 rfl (aL Tryz.func146 rfl rfl (aj.mk ⟨⟨_,Acc.cast aq (by rfl),by omega⟩,h9⟩))
theorem HS {p:Prop} (h:p:=by first|(rw [if_pos (by omega)]; done)|(rw [if_neg (by omega)]; omega)|exact (decide_eq_false (by omega)).symm|exact (decide_eq_true (by omega)).symm|(exfalso; omega)):p:=h
theorem aga {w0:World}  {kR:Value} {q:List Int} (k:Int) {jd:Value} {s:List Pos} (uu:ak ie w0 (aR 0 w0.heap.size) kR q) (Ac:bp k) (jX:ak ke w0 (aR 0 w0.heap.size) jd s) (hk:0≤k∧k≤4) (dL:q.length≤1000) (hc:s.length≤1000) :
 Calls Tryz.prog 143 #[kR,.int .i64 k,jd] w0 (aj fun aD ai=>∃ ec fF,aD=.tuple #[ec,fF]∧ec=.int .i64 (if dg q.length k s q.length > k then 0 else dg q.length k s q.length)∧(∃ b4:Bool,b4=(decide (dg q.length k s q.length≤k))∧fF=.bool b4)∧Ext w0 ai):=by
 have ba:Ext w0 w0:=Mod.refl _ _;have fg:=uu.le;have lx:=jX.le;refine bS Tryz.func143 rfl Tryz.ntmps143 rfl (.go 9 rfl (.ac (.aE Lc rfl (Md (w0:=w0)  (k) cu aU) ?_)));rintro _ ai ⟨⟨_,rfl,rfl⟩,au⟩;have f1:=uu.ext au;have f2:=jX.ext au;have bf:=ba.ext au;have dW:=au.size;refine .z (.not rfl) (.go 8 rfl (.ac (.aE TQ rfl (UJ (w0:=ai) (q:=q) (s:=s) (k) ((f1).b0 (Nat.zero_le _) (by omega)) cu ((f2).b0 (Nat.zero_le _) (by omega)) aU aU aU) ?_)));rintro v1 aZ ⟨⟨h2,h1,cf⟩,ax⟩;have f3:=f1.ext ax;have bk:=bf.ext ax;have e7:=ax.size;have jl:=h1.le;have q8:=h1.lt;have ra:=GJ q.length (dg q.length k s);refine .go 1 rfl (.z (.ca Tryz.underlying179 (f3) rfl) ?_);obtain ⟨aw,aG,fE,a7,bK,b6,iR,cV⟩:=ak.ft (P:=Tryz.prog) h1.bl Tryz.underlying57 aP aA.fy (k:=.i64) (n:=((q.length:Nat):Int)) (q.length) (by omega) aU;refine .z (.indexAddr rfl rfl bK) (have zW:=qj a7;have UK:=wz (n:=q.length) hk.1 s q.length;.z (.dT aP cV) (.go 7 rfl (.aX (.gt rfl rfl) (fun aJ=>?_) fun aJ=>?_)))
 · exact .ae 7 rfl (bM Tryz.func143 rfl rfl rfl (aj.mk ⟨_,_,rfl,(congrArg (Value.int .i64) HS),⟨_,HS,rfl⟩,bk⟩))
 exact .ae 9 rfl (bM Tryz.func143 rfl rfl rfl (aj.mk ⟨_,_,rfl,(congrArg (Value.int .i64) HS),⟨_,HS,rfl⟩,bk⟩))
theorem HT {w0:World}  {jd:Value} {s:List Pos} (jX:ak ke w0 (aR 0 w0.heap.size) jd s) :
 Calls Tryz.prog 147 #[jd] w0 (aj fun aD ai=>(∃ b4:Bool,b4=s.isEmpty∧aD=.bool b4)∧Ext w0 ai):=by
 have ba:Ext w0 w0:=Mod.refl _ _;have fg:=jX.le;exact bS Tryz.func147 rfl Tryz.ntmps147 rfl (.go 7 rfl (.z (.ca Tryz.underlying225 (jX) rfl) (.ev (.eq rfl rfl) fun aG aJ=>.ae 2 rfl (aL Tryz.func147 rfl rfl (aj.mk ⟨⟨_,(by first|exact acz (by assumption)|(exfalso; omega)),rfl⟩,ba⟩)))))
end Go.Proofs
namespace Go.Proofs
open Go.aA Go.ab
theorem yo {p:Prop} (h:p:=by first|(rw [acH rfl rfl,Ad,SG (by omega) Ed]; simp)|(rw [Ad,SG (by omega) Ed,acT hd.1 Ee kv im mM kL rfl (by assumption)]; rfl)|(exfalso; omega)):p:=h
theorem yp {p:Prop} (h:p:=by first|(rw [SA]; rw [SH (by omega) kl]; simp only; omega)|(rw [SH (by omega) kl]; omega)|(exfalso; omega)):p:=h
theorem ik {p:Prop} (h:p:=by omega):p:=h
theorem yq {p:Prop} (h:p:=by first|exact wZ|exact fun x ad=>List.mem_append_left _ (wZ x ad)|(exfalso; omega)):p:=h
theorem la {p:Prop} (h:p:=by assumption):p:=h
theorem yr {p:Prop} (h:p:=by first|exact HU|exact rn|(exfalso; omega)):p:=h
theorem HV {p:Prop} (h:p:=by first|have:=zF rn; rw [KL (by omega)] at B5; omega|(exfalso; omega)):p:=h
theorem lb {p:Prop} (h:p:=by decide):p:=h
theorem yu {p:Prop} (h:p:=by first|omega|(exfalso; omega)):p:=h
theorem HW {p:Prop} (h:p:=by first|rw [KL (by omega)] at B5; omega|(exfalso; omega)):p:=h
theorem HX {p:Prop} (h:p:=by first|rw [Ad,SF (by omega)]; exact bD|(exfalso; omega)):p:=h
theorem HY {p:Prop} (h:p:=by first|rw [bk,Ad,SF (by omega)]|(exfalso; omega)):p:=h
theorem HZ {p:Prop} (h:p:=by (rw [acG (by have:=acV Ef; omega)]; rfl)):p:=h
theorem Eg {p:Prop} (h:p:=by first|assumption|omega|(simp; done)):p:=h
theorem H0 {p:Prop} (h:p:=by rw [KL (by omega)] at B5; omega):p:=h
theorem H2 {p:Prop} (h:p:=by first|exact rn|(exfalso; omega)):p:=h
theorem agb {w0:World} {F G:Nat→Prop} {cr:Type} {A:cr→dc (fun _=>False)} {mN:FuncId} {first cap:List Value} {ok:cr→ag→Prop} {f:cr→ag→cr×Bool} {h_ kR:Value} {fX ew:Nat} {s:ch} {words:List ag} {rZ:List bm} {q:List Int} (d:Int) (eo:cr) (av:SD Tryz.prog mN first cap A ok f) (bg:(A eo).p F w0) (bO:∀ b,F b→b < w0.heap.size) (ox:gp 0 w0 fX ew h_ (fa s)) (ot:ew≤w0.heap.size) (Eh:∀ b,fX≤b→b < ew→¬ F b) (dL:ak ie w0 G kR q) (cC:∀ b,G b→¬ F b) (fj:∀ b,G b→b < w0.heap.size) (hd:0≤d∧d≤4) (L8:q.length≤999) (agc:nodeAt (fa s) 0=(iB words,rZ)) (CA:nq s (words,rZ)) (ml:fD words) (agd:Deep 12 words) (kL:∀ y∈s,nq s y∧fD y.1∧Deep 12 y.1) (dr:s.length≤1000000) (gZ:∀ x∈fa s,x.2.length≤1000000) (age:sK words≤500000) (c7:kH ok f eo (ql words q d)) :
 Calls Tryz.prog 100 #[h_,kR,.int .i64 d,.func (.func mN) first.toArray cap.toArray] w0 (aj fun aD ai=>aD=.tuple #[]∧Mod F w0 ai∧∃ cO,(A (e5 f eo (ql words q d)).1).p cO ai∧∀ b,cO b→b < ai.heap.size∧(F b∨w0.heap.size≤b)):=by
 have gB:=ar.nu (R:=fun _=>False) bg (fun b U=>⟨bO b U,id⟩) (fun _ h=>h.elim);have fg:=dL.le;have q1:(fa s).length≤1000000:=(by rw [tF]; exact dr);refine bS Tryz.func100 rfl Tryz.ntmps100 rfl ?_;refine .go 4 rfl ?_;refine .ac (.aE aeo rfl (af5 (w0:=w0) (q:=q) (d) (dL.mono (fun b U=>⟨Nat.zero_le _,Nat.lt_of_lt_of_le (fj b U) gB.mod.size⟩)) cu aU) ?_);rintro v1 ai ⟨h1,au⟩;have bx:=(gB.FV au h1).cK;have jl:=h1.le;have f1:=bx.bl (i:=1) (k:=0) rfl rfl;obtain ⟨br,bs,ej⟩:=f1.shape;subst ej;refine .z (.build (vs:=#[(0,(.int .i64 0:Value)),(1,(.slice br (([Pos.mk 0 0])).length bs)),(2,aH (([]:ag)))]) (v:=.agg #[.int .i64 0,(.slice br (([Pos.mk 0 0])).length bs),aH (([]:ag))]) rfl (fun _=>by kernel_rfl)) ?_;refine .ac (.buildSlice [(.agg #[.int .i64 0,(.slice br (([Pos.mk 0 0])).length bs),aH (([]:ag))]:Value)] Tryz.underlying229 q7 rfl rfl rfl lb fun aZ aG ax aJ c9 a1=>?_);have b6:=Acc.eP (enc:=pF) a1 ([(gu.mk 0 (cb.mk br (([Pos.mk 0 0])).length bs) (([]:ag)))]:List gu) 1 rfl zE rfl (by unfold maxLen; omega);have b2:=(bx.fU ax b6 (.inr (by omega))).dM;have bo:=(b2.dj [2,1,0] (by rfl) (by decide)).dM;refine .ae 3 rfl ?_;refine dU (I:=fun m E W=>∃ (Mm:Value) (gm:List gu) (l7:List gg) (V:List (Value×List Pos)) (dt:cr),E=[(0,h_),(1,kR),(2,.int .i64 d),(3,.func (.func mN) first.toArray cap.toArray),(8,Mm)]∧m=pD l7∧ar (fun _=>False) F w0 W [bb pF 228 3 Mm gm,ff ke V,A dt]∧(cx (mc q d s V) gm l7)∧(e5 f eo (ql words q d)=e5 f dt (lp q d l7))∧(kH ok f dt (lp q d l7))∧(pD l7≤500000)∧(gm.length≤500000)) ?_ ?_
 · refine ⟨_,_,⟨((.slice (some ⟨aG,0,none⟩) 1 1):Value),([(gu.mk 0 (cb.mk br (([Pos.mk 0 0])).length bs) (([]:ag)))]:List gu),([gg.mk 0 (words,rZ) []]:List gg),([((.slice br (([Pos.mk 0 0])).length bs),([Pos.mk 0 0]))]:List (Value×List Pos)),(eo:cr),rfl,rfl,bo,(by exact mc.start hd.1 rfl agc CA ml agd),(by rw [SC]),(by rw [SC]; exact c7),(by simpa [pD] using age),(by simp)⟩,⟨rfl,rfl,rfl,rfl,rfl,trivial⟩⟩
 · rintro _ _ bz ⟨Mm,gm,l7,V,dt,rfl,rfl,bP,vX,fr,jK,ak2,Lu⟩ bV;obtain ⟨g1,f2,dG,bw⟩:=bP.bU (i:=0) rfl;refine .go 4 rfl ?_;refine .z (.ca Tryz.underlying229 (f2.bl) rfl) ?_;refine .aX (.gt rfl rfl) (fun aK=>?_) fun aK=>?_
   · refine .go 8 rfl ?_;refine .z (.ca Tryz.underlying229 (f2.bl) rfl) ?_;refine .z (.il ((((gm.length:Nat):Int)-1)) rfl rfl ik) ?_;obtain ⟨aw,bn,fE,a7,bK,e1,cV⟩:=ak.eH (P:=Tryz.prog) f2.bl Tryz.underlying229 q7 zE (k:=.i64) (n:=(((gm.length:Nat):Int)-1)) ((gm.length-1)) ik aU;refine .z (.indexAddr rfl rfl bK) ?_;refine .z (.c4 q7 rfl (fun _ e=>e▸cV) rfl) ?_;obtain ⟨k4,z,w1,rfl,rfl,c9,Ei,oD,Ef,vB,Ee,ak3,ak4,H3,xd⟩:=mc.pop vX a7 ik;rw [Sz,acE vB,←acF] at fr jK;have ak5:=SA k4 z;have ak6:=acM vB;have ak7:=zF c9;have nB:=acO (q:=q) (w:=z.word) hd.1 (D:=dg q.length d (eN q d (dS z.word)) q.length) rfl;have agf:=acr (q.length+1) d (k3 q (dS z.word));change (eN q d (dS z.word)).length≤_ at agf;refine .ac (.alloc q7 fun cj bj aM aV eY bH=>?_);have cv:=(bP.dm aM aV bH).bu;have f3:=cv.k 3;refine .ac (.st q7 f3 fun cM aW cE=>?_);have cI:=(cv.cL (cs':=[.int .i64 ((z.n:Int)),w1.val,aH z.word]) (i:=3) rfl aW cE).bu;obtain ⟨g2,f4,f',cB⟩:=cI.bU (i:=0) rfl;refine .go 5 rfl ?_;refine .z (.ca Tryz.underlying229 (f4.bl) rfl) ?_;refine .z (.il ((((gm.length:Nat):Int)-1)) rfl rfl ik) ?_;obtain ⟨v2,c_,b7⟩:=Acc.cut (P:=Tryz.prog) f4 Tryz.underlying229 q7 zE (k:=.i64) (n:=(((gm.length:Nat):Int)-1)) ((gm.length-1)) ik ik;refine .z (.ss rfl rfl rfl rfl c_) ?_;have b8:=(cB _ _ _ _ (Mod.refl _ _) b7 (.inl rfl)).bu;refine .go 7 rfl ?_;have f5:=b8.k 3;refine .a_ DE Dx f5 ?_;have f6:=b8.out dL cC;have f7:=b8.Dk (i:=1) rfl Ei;refine .ac (.aE aep rfl (aga (w0:=cM) (q:=q) (s:=(eN q d (dS z.word))) (d) (f6.mono (fun b U=>⟨Nat.zero_le _,Nat.lt_of_lt_of_le (fj b U) b8.mod.size⟩)) cu f7 aU aU aU) ?_);rintro _ de ⟨_,_,rfl,rfl,⟨cR,bc,rfl⟩,bh⟩;have bW:=b8.ext bh;refine .go 10 rfl ?_;cases cR
     case true =>
      replace bc:=bc.symm;refine .go 2 rfl ?_;refine .h8 (.eq rfl rfl) (fun cy=>?_) fun cy=>?_
      · refine .go 3 rfl ?_;have f8:=bW.k 3;refine .a_ DD aP f8 ?_;have f9:=gp.zD ox bW.mod Eh;refine .ac (.aE TN rfl (T' (w0:=de)  ((z.n:Int)) f9 (Nat.le_trans ot bW.mod.size) cu Eg) ?_);rintro _ dv ⟨⟨hy,ck,rfl⟩,bQ⟩;have ct:=bW.ext bQ;rw [oD] at ck;dsimp only at ck;refine .go 2 rfl ?_;cases hy
        case true =>
         replace ck:=ck.symm;refine .go 1 rfl ?_;have f10:=ct.k 3;refine .a_ DF dp f10 ?_;have vW:iB z.x.1=true:=(by assumption);obtain ⟨jY,et,dZ,d'⟩:=ct.act (i:=2) rfl;refine .ac (.call (first:=first) (cap:=cap) av.cl rfl rfl (av.call _ _ _ _ et (fun b U=>(dZ b U).2) (acR jK ⟨vW,nB.1 (Dm la la)⟩)) ?_);rintro _ en ⟨rfl,b3,gb,gV,fu⟩;have cq:=(d' _ _ _ b3 gV fu).bu;clear et dZ d' gV fu;generalize c':(f dt z.word).2=h5;replace c':=c'.symm;cases h5
         case true =>
          replace c':=c'.symm;refine .z (.not rfl) ?_;refine .go 7 rfl ?_;have f11:=cq.k 3;refine .a_ DD aP f11 ?_;have f12:=gp.zD ox cq.mod Eh;refine .ac (.aE BM rfl (BQ (w0:=en)  ((z.n:Int)) f12 (Nat.le_trans ot cq.mod.size) cu Eg (by first|assumption|(simp; done))) ?_);rintro v3 eE ⟨⟨h2,aa,cf⟩,cF⟩;have cg:=(cq.fU cF aa cf).c6;clear cf;have n_:=aa.le;have s7:(nodeAt (fa s) (z.n:Int)).2=z.x.2:=(by rw [oD]);have ui:=A0 gZ (z.n:Int);rw [s7] at ui;have cz:ar (fun _=>False) F w0 eE [bb pF 228 3 v2 ((gm.take ((gm.length-1)))),ff ke V,A (f dt z.word).1,az bj [.int .i64 ((z.n:Int)),w1.val,aH z.word] 228,bb eg 233 2 v3 z.x.2]:=(by rw [←s7]; exact cg);have bk:e5 f eo (ql words q d)=e5 f (f dt z.word).1 (lq q d z 0++lp q d k4):=acQ fr ⟨vW,nB.1 (Dm la la)⟩ la;have bD:kH ok f (f dt z.word).1 (lq q d z 0++lp q d k4):=acS jK ⟨vW,nB.1 (Dm la la)⟩ la;obtain ⟨g3,f13,hU,d_⟩:=cz.bU (i:=4) rfl;refine .go 5 rfl ?_;refine .z (.ca Tryz.underlying219 (f13.bl) rfl) ?_;refine .z (.il ((((z.x.2.length:Nat):Int)-1)) rfl rfl ik) ?_;have dd:=(cz.dj [0,1,3,4,2] (by rfl) lb).c6;refine .ae 3 rfl ?_;refine dU (I:=fun m E W=>∃ (mo:Value) (kS:List gu) (i:Int) (jO:List gg) (i6:List (Value×List Pos)),E=[(0,h_),(1,kR),(2,.int .i64 d),(3,.func (.func mN) first.toArray cap.toArray),(8,mo),(9,ptr bj 0),(12,v3),(13,.int .i64 i)]∧m=(i+1).toNat∧ar (fun _=>False) F w0 W [bb pF 228 3 mo kS,ff ke i6,az bj [.int .i64 ((z.n:Int)),w1.val,aH z.word] 228,bb eg 233 2 v3 z.x.2,A (f dt z.word).1]∧(cx (mc q d s i6) kS jO)∧(∀ x∈V,x∈i6)∧(lp q d jO=lq q d z (i+1).toNat++lp q d k4)∧(pD jO≤pD k4+pE (ga (eZ z.x.1)) (i+1).toNat)∧(-1≤i∧i < (z.x.2.length:Int))) ?_ ?_
          · refine ⟨_,_,⟨(v2:Value),((gm.take ((gm.length-1))):List gu),((((z.x.2.length:Nat):Int)-1):Int),(k4:List gg),(V:List (Value×List Pos)),rfl,rfl,dd,(by exact c9),(by exact fun x ad=>ad),HZ,ik,ik⟩,⟨rfl,rfl,rfl,rfl,rfl,rfl,rfl,rfl,trivial⟩⟩
          · rintro _ _ eO ⟨mo,kS,i,jO,i6,rfl,rfl,cS,rn,wZ,Ad,B5,wU⟩ fk;refine .go 4 rfl ?_;refine .aX (.ge rfl rfl) (fun dq=>?_) fun dq=>?_
            · refine .ae 1 rfl ?_;obtain ⟨g4,f14,h4,hS⟩:=cS.bU (i:=3) rfl;obtain ⟨x2,j3,iv,cY,fM,jy,eL⟩:=ak.eH (P:=Tryz.prog) f14.bl Tryz.underlying219 dY j' (k:=.i64) (n:=i) ((i).toNat) ik aU;refine .go 8 rfl ?_;refine .z (.indexAddr rfl rfl fM) ?_;obtain ⟨fv,wW,oN,jq,kv,o4,mM,im,D9⟩:=zl Ef vB cY;obtain ⟨tN,rfl,r5⟩:=A1 vB H3 jq;have nf:eX x2.rune=du fv.1:=(by rw [kv]; exact xv im);have Ae:=we fv.1;have Mn:(eX x2.rune).length≤4:=(by rw [nf]; exact Ae);have n9:0≤x2.rune∧x2.rune≤1114111:=(by rw [kv]; have:=im.1; omega);have Ed:=GN (q:=q) (d:=d) jq;have kl:=GP jq;have Mo:=Dj fv.2;have Mp:=zF rn;have Mq:=GS (ga (eZ z.x.1)) (i+1).toNat;refine .z (.c4 dY rfl (fun _ e=>e▸eL) rfl) ?_;refine .ac (.alloc dY fun gi mF cG e8 gT da=>?_);have eF:=(cS.dm cG e8 da).n6;have f15:=eF.k 5;refine .ac (.store dY rfl rfl rfl rfl rfl f15 dx fun hA cX gL eT=>?_);have dK:=(eF.cL (cs':=[.int .i32 x2.rune,.int .i64 x2.to]) (i:=5) rfl cX eT).n6;refine .go 5 rfl ?_;have f16:=dK.k 2;refine .a_ DE Dx f16 ?_;have f17:=dK.k 5;refine .a_ pK hn f17 ?_;have f18:=dK.out dL cC;have f19:=dK.Dk (i:=1) rfl (wZ _ Ei);refine .ac (.aE Hf rfl (HR (w0:=hA) (q:=q) (s:=(eN q d (dS z.word))) (d) (x2.rune) (f18.mono (fun b U=>⟨Nat.zero_le _,Nat.lt_of_lt_of_le (fj b U) dK.mod.size⟩)) cu f19 cu aU aU aU) ?_);rintro v4 j4 ⟨⟨oc,aq,eA⟩,dV⟩;have fs:=(dK.fU dV aq eA).n7;clear eA;have s4:=aq.le;obtain ⟨g5,f20,kj,ih⟩:=fs.bU (i:=6) rfl;refine .go 5 rfl ?_;refine .ac (.aE Hg rfl (HT (w0:=j4) (s:=(e6 (q.length+1) d (e0 d q (dg q.length d ((eN q d (dS z.word)))) x2.rune)))  (f20.bl.b0 (Nat.zero_le _) f20.lt)) ?_);rintro _ lC ⟨⟨pQ,gn,rfl⟩,fG⟩;have eW:=fs.ext fG;cases pQ
              case true =>
               replace gn:=gn.symm;refine .z (.not rfl) ?_;refine .go 6 rfl ?_;refine .z (.il ((i-1)) rfl rfl ik) ?_;have fR:=(eW.dj [0,1,2,3,4] (by rfl) lb).c6;refine .ae 2 rfl ?_;exact (fk _ _ _ ⟨(mo:Value),(kS:List gu),((i-1):Int),(jO:List gg),(i6:List (Value×List Pos)),rfl,rfl,fR,yr,yq,yo,yp,yu⟩ ik).sub ⟨rfl,rfl,rfl,rfl,rfl,rfl,rfl,rfl,trivial⟩
              replace gn:=gn.symm;refine .z (.not rfl) ?_;refine .go 4 rfl ?_;have f21:=eW.k 5;refine .a_ pL aP f21 ?_;refine .go 1 rfl ?_;have f22:=eW.k 2;refine .a_ DF dp f22 ?_;refine .a_ pK hn f21 ?_;refine .z (.uQ (by kernel_rfl) Tryz.underlying9 rfl) ?_;refine .z (.tr rfl rfl (by first|omega|(simp only [List.length_append]; omega)|(simp only [List.length_append,List.length_cons,List.length_nil]; omega))) ?_;obtain ⟨g6,f23,jM,nV⟩:=eW.bU (i:=6) rfl;obtain ⟨dN,dO,ju⟩:=f23.shape;subst ju;refine .z (.build (vs:=#[(0,(.int .i64 x2.to:Value)),(1,(.slice dN ((e6 (q.length+1) d (e0 d q (dg q.length d ((eN q d (dS z.word)))) x2.rune))).length dO)),(2,aH ((z.word++(eX x2.rune))))]) (v:=.agg #[.int .i64 x2.to,(.slice dN ((e6 (q.length+1) d (e0 d q (dg q.length d ((eN q d (dS z.word)))) x2.rune))).length dO),aH ((z.word++(eX x2.rune)))]) rfl (fun _=>by kernel_rfl)) ?_;refine .ac (.buildSlice [(.agg #[.int .i64 x2.to,(.slice dN ((e6 (q.length+1) d (e0 d q (dg q.length d ((eN q d (dS z.word)))) x2.rune))).length dO),aH ((z.word++(eX x2.rune)))]:Value)] Tryz.underlying229 q7 rfl rfl rfl lb fun rh zZ hV mE i1 fZ=>?_);have j2:=ak.eP (enc:=pF) fZ ([(gu.mk x2.to (cb.mk dN ((e6 (q.length+1) d (e0 d q (dg q.length d ((eN q d (dS z.word)))) x2.rune))).length dO) ((z.word++(eX x2.rune))))]:List gu) 1 rfl rfl (by unfold maxLen; omega);have fB:=(eW.iD hV mE i1 j2).n8;obtain ⟨g8,f24,mj,mO⟩:=fB.bU (i:=0) rfl;have f25:=fB.bl (i:=7) (k:=0) rfl rfl;refine .ac (.append f24 Tryz.underlying229 q7 rfl zE GR rfl rfl (f25) ol gA fun v5 g7 w2 dH uw iG uh=>?_);have hB:=(mO _ _ _ _ uw dH iG).n8;clear iG;have ij:=(hB.freeze (i:=6) rfl).n8;have h6:=(ij.aN [0,2,3,4,5,7] 1 6 (by rfl) lb).n7;have lZ:=(h6.ty (ff ke (i6++[((.slice dN ((e6 (q.length+1) d (e0 d q (dg q.length d ((eN q d (dS z.word)))) x2.rune))).length dO),(e6 (q.length+1) d (e0 d q (dg q.length d ((eN q d (dS z.word)))) x2.rune)))])) 6 rfl (fun eS bN=>GQ bN)).n7;have HU:=mc.push hd.1 rn dr kL Ee (sh:=cb.mk dN ((e6 (q.length+1) d (e0 d q (dg q.length d ((eN q d (dS z.word)))) x2.rune))).length dO) (L:=(e6 (q.length+1) d (e0 d q (dg q.length d ((eN q d (dS z.word)))) x2.rune))) (wd:=z.word++eX x2.rune) kv mM im rfl (by rw [nf]) r5 xd o4;refine .go 5 rfl ?_;refine .z (.il ((i-1)) rfl rfl ik) ?_;have kA:=(lZ.dj [0,6,1,2,3] (by rfl) lb).c6;refine .ae 2 rfl ?_;exact (fk _ _ _ ⟨(v5:Value),((kS++[(gu.mk x2.to (cb.mk dN ((e6 (q.length+1) d (e0 d q (dg q.length d ((eN q d (dS z.word)))) x2.rune))).length dO) ((z.word++(eX x2.rune))))]):List gu),((i-1):Int),((jO++[gg.mk wW (fv.2,oN) (z.word++du fv.1)]):List gg),((i6++[((.slice dN ((e6 (q.length+1) d (e0 d q (dg q.length d ((eN q d (dS z.word)))) x2.rune))).length dO),(e6 (q.length+1) d (e0 d q (dg q.length d ((eN q d (dS z.word)))) x2.rune)))]):List (Value×List Pos)),rfl,rfl,kA,yr,yq,yo,yp,yu⟩ ik).sub ⟨rfl,rfl,rfl,rfl,rfl,rfl,rfl,rfl,trivial⟩
            refine .ae 1 rfl ?_;have dI:=(cS.dj [0,1,4] (by rfl) lb).dM;refine .ae 3 rfl ?_;exact (bV _ _ _ ⟨(mo:Value),(kS:List gu),(jO:List gg),(i6:List (Value×List Pos)),((f dt z.word).1:cr),rfl,rfl,dI,H2,HY,HX,HW,HV⟩ H0).sub ⟨rfl,rfl,rfl,rfl,rfl,trivial⟩
         replace c':=c'.symm;refine .z (.not rfl) ?_;refine .ae 3 rfl ?_;refine AF Tryz.func100 rfl ?_;have bF:=(cq.dj [2] (by rfl) lb).cJ;have oT:(e5 f eo (ql words q d)).1=(f dt z.word).1:=(by first|(rw [SE fr ⟨vW,nB.1 (Dm la la)⟩ la]; done)|(rw [fr,SI vX ik]; rfl));obtain ⟨cD,c0,c3,cQ⟩:=bF.fin;exact aj.mk ⟨rfl,cD,c0,oT▸c3,cQ⟩
        replace ck:=ck.symm;refine .go 12 rfl ?_;have f10:=ct.k 3;refine .a_ DD aP f10 ?_;have f11:=gp.zD ox ct.mod Eh;refine .ac (.aE BM rfl (BQ (w0:=dv)  ((z.n:Int)) f11 (Nat.le_trans ot ct.mod.size) cu Eg (by first|assumption|(simp; done))) ?_);rintro v3 en ⟨⟨h2,aa,cf⟩,b3⟩;have bF:=(ct.fU b3 aa cf).c6;clear cf;have n_:=aa.le;have s7:(nodeAt (fa s) (z.n:Int)).2=z.x.2:=(by rw [oD]);have ui:=A0 gZ (z.n:Int);rw [s7] at ui;have cg:ar (fun _=>False) F w0 en [bb pF 228 3 v2 ((gm.take ((gm.length-1)))),ff ke V,A dt,az bj [.int .i64 ((z.n:Int)),w1.val,aH z.word] 228,bb eg 233 2 v3 z.x.2]:=(by rw [←s7]; exact bF);have bk:e5 f eo (ql words q d)=e5 f dt (lq q d z 0++lp q d k4):=KJ fr (fun an=>by first|exact Bt la (nB.2 an.2)|exact Bu la (nB.2 an.2)|exact absurd an.1 (by simp [*]));have bD:kH ok f dt (lq q d z 0++lp q d k4):=KK jK (fun an=>by first|exact Bt la (nB.2 an.2)|exact Bu la (nB.2 an.2)|exact absurd an.1 (by simp [*]));obtain ⟨g3,f12,hU,d_⟩:=cg.bU (i:=4) rfl;refine .go 5 rfl ?_;refine .z (.ca Tryz.underlying219 (f12.bl) rfl) ?_;refine .z (.il ((((z.x.2.length:Nat):Int)-1)) rfl rfl ik) ?_;have cS:=(cg.dj [0,1,3,4,2] (by rfl) lb).c6;refine .ae 3 rfl ?_;refine dU (I:=fun m E W=>∃ (mo:Value) (kS:List gu) (i:Int) (jO:List gg) (i6:List (Value×List Pos)),E=[(0,h_),(1,kR),(2,.int .i64 d),(3,.func (.func mN) first.toArray cap.toArray),(8,mo),(9,ptr bj 0),(12,v3),(13,.int .i64 i)]∧m=(i+1).toNat∧ar (fun _=>False) F w0 W [bb pF 228 3 mo kS,ff ke i6,az bj [.int .i64 ((z.n:Int)),w1.val,aH z.word] 228,bb eg 233 2 v3 z.x.2,A dt]∧(cx (mc q d s i6) kS jO)∧(∀ x∈V,x∈i6)∧(lp q d jO=lq q d z (i+1).toNat++lp q d k4)∧(pD jO≤pD k4+pE (ga (eZ z.x.1)) (i+1).toNat)∧(-1≤i∧i < (z.x.2.length:Int))) ?_ ?_
        · refine ⟨_,_,⟨(v2:Value),((gm.take ((gm.length-1))):List gu),((((z.x.2.length:Nat):Int)-1):Int),(k4:List gg),(V:List (Value×List Pos)),rfl,rfl,cS,(by exact c9),(by exact fun x ad=>ad),HZ,ik,ik⟩,⟨rfl,rfl,rfl,rfl,rfl,rfl,rfl,rfl,trivial⟩⟩
        · rintro _ _ eE ⟨mo,kS,i,jO,i6,rfl,rfl,cz,rn,wZ,Ad,B5,wU⟩ fk;refine .go 4 rfl ?_;refine .aX (.ge rfl rfl) (fun c'=>?_) fun c'=>?_
          · refine .ae 1 rfl ?_;obtain ⟨g4,f13,h4,hS⟩:=cz.bU (i:=3) rfl;obtain ⟨x2,kO,iv,cY,fM,jy,eL⟩:=ak.eH (P:=Tryz.prog) f13.bl Tryz.underlying219 dY j' (k:=.i64) (n:=i) ((i).toNat) ik aU;refine .go 8 rfl ?_;refine .z (.indexAddr rfl rfl fM) ?_;obtain ⟨fv,wW,oN,jq,kv,o4,mM,im,D9⟩:=zl Ef vB cY;obtain ⟨tN,rfl,r5⟩:=A1 vB H3 jq;have nf:eX x2.rune=du fv.1:=(by rw [kv]; exact xv im);have Ae:=we fv.1;have Mn:(eX x2.rune).length≤4:=(by rw [nf]; exact Ae);have n9:0≤x2.rune∧x2.rune≤1114111:=(by rw [kv]; have:=im.1; omega);have Ed:=GN (q:=q) (d:=d) jq;have kl:=GP jq;have Mo:=Dj fv.2;have Mp:=zF rn;have Mq:=GS (ga (eZ z.x.1)) (i+1).toNat;refine .z (.c4 dY rfl (fun _ e=>e▸eL) rfl) ?_;refine .ac (.alloc dY fun eO j3 cF dq gT da=>?_);have dI:=(cz.dm cF dq da).n6;have f14:=dI.k 5;refine .ac (.store dY rfl rfl rfl rfl rfl f14 dx fun gi cG gL eT=>?_);have eF:=(dI.cL (cs':=[.int .i32 x2.rune,.int .i64 x2.to]) (i:=5) rfl cG eT).n6;refine .go 5 rfl ?_;have f15:=eF.k 2;refine .a_ DE Dx f15 ?_;have f16:=eF.k 5;refine .a_ pK hn f16 ?_;have f17:=eF.out dL cC;have f18:=eF.Dk (i:=1) rfl (wZ _ Ei);refine .ac (.aE Hf rfl (HR (w0:=gi) (q:=q) (s:=(eN q d (dS z.word))) (d) (x2.rune) (f17.mono (fun b U=>⟨Nat.zero_le _,Nat.lt_of_lt_of_le (fj b U) eF.mod.size⟩)) cu f18 cu aU aU aU) ?_);rintro v4 hA ⟨⟨oc,aq,eA⟩,cX⟩;have ds:=(eF.fU cX aq eA).n7;clear eA;have s4:=aq.le;obtain ⟨g5,f19,kj,ih⟩:=ds.bU (i:=6) rfl;refine .go 5 rfl ?_;refine .ac (.aE Hg rfl (HT (w0:=hA) (s:=(e6 (q.length+1) d (e0 d q (dg q.length d ((eN q d (dS z.word)))) x2.rune)))  (f19.bl.b0 (Nat.zero_le _) f19.lt)) ?_);rintro _ j4 ⟨⟨mF,e8,rfl⟩,dV⟩;have fs:=ds.ext dV;cases mF
            case true =>
             replace e8:=e8.symm;refine .z (.not rfl) ?_;refine .go 6 rfl ?_;refine .z (.il ((i-1)) rfl rfl ik) ?_;have eW:=(fs.dj [0,1,2,3,4] (by rfl) lb).c6;refine .ae 2 rfl ?_;exact (fk _ _ _ ⟨(mo:Value),(kS:List gu),((i-1):Int),(jO:List gg),(i6:List (Value×List Pos)),rfl,rfl,eW,yr,yq,yo,yp,yu⟩ ik).sub ⟨rfl,rfl,rfl,rfl,rfl,rfl,rfl,rfl,trivial⟩
            replace e8:=e8.symm;refine .z (.not rfl) ?_;refine .go 4 rfl ?_;have f20:=fs.k 5;refine .a_ pL aP f20 ?_;refine .go 1 rfl ?_;have f21:=fs.k 2;refine .a_ DF dp f21 ?_;refine .a_ pK hn f20 ?_;refine .z (.uQ (by kernel_rfl) Tryz.underlying9 rfl) ?_;refine .z (.tr rfl rfl (by first|omega|(simp only [List.length_append]; omega)|(simp only [List.length_append,List.length_cons,List.length_nil]; omega))) ?_;obtain ⟨g6,f22,jM,nV⟩:=fs.bU (i:=6) rfl;obtain ⟨dN,dO,ju⟩:=f22.shape;subst ju;refine .z (.build (vs:=#[(0,(.int .i64 x2.to:Value)),(1,(.slice dN ((e6 (q.length+1) d (e0 d q (dg q.length d ((eN q d (dS z.word)))) x2.rune))).length dO)),(2,aH ((z.word++(eX x2.rune))))]) (v:=.agg #[.int .i64 x2.to,(.slice dN ((e6 (q.length+1) d (e0 d q (dg q.length d ((eN q d (dS z.word)))) x2.rune))).length dO),aH ((z.word++(eX x2.rune)))]) rfl (fun _=>by kernel_rfl)) ?_;refine .ac (.buildSlice [(.agg #[.int .i64 x2.to,(.slice dN ((e6 (q.length+1) d (e0 d q (dg q.length d ((eN q d (dS z.word)))) x2.rune))).length dO),aH ((z.word++(eX x2.rune)))]:Value)] Tryz.underlying229 q7 rfl rfl rfl lb fun lC pQ fG gn i1 fZ=>?_);have j2:=ak.eP (enc:=pF) fZ ([(gu.mk x2.to (cb.mk dN ((e6 (q.length+1) d (e0 d q (dg q.length d ((eN q d (dS z.word)))) x2.rune))).length dO) ((z.word++(eX x2.rune))))]:List gu) 1 rfl rfl (by unfold maxLen; omega);have fR:=(fs.iD fG gn i1 j2).n8;obtain ⟨g8,f23,mj,mO⟩:=fR.bU (i:=0) rfl;have f24:=fR.bl (i:=7) (k:=0) rfl rfl;refine .ac (.append f23 Tryz.underlying229 q7 rfl zE GR rfl rfl (f24) ol gA fun v5 g7 rh dH hV iG uh=>?_);have fB:=(mO _ _ _ _ hV dH iG).n8;clear iG;have hB:=(fB.freeze (i:=6) rfl).n8;have ij:=(hB.aN [0,2,3,4,5,7] 1 6 (by rfl) lb).n7;have h6:=(ij.ty (ff ke (i6++[((.slice dN ((e6 (q.length+1) d (e0 d q (dg q.length d ((eN q d (dS z.word)))) x2.rune))).length dO),(e6 (q.length+1) d (e0 d q (dg q.length d ((eN q d (dS z.word)))) x2.rune)))])) 6 rfl (fun eS bN=>GQ bN)).n7;have HU:=mc.push hd.1 rn dr kL Ee (sh:=cb.mk dN ((e6 (q.length+1) d (e0 d q (dg q.length d ((eN q d (dS z.word)))) x2.rune))).length dO) (L:=(e6 (q.length+1) d (e0 d q (dg q.length d ((eN q d (dS z.word)))) x2.rune))) (wd:=z.word++eX x2.rune) kv mM im rfl (by rw [nf]) r5 xd o4;refine .go 5 rfl ?_;refine .z (.il ((i-1)) rfl rfl ik) ?_;have lZ:=(h6.dj [0,6,1,2,3] (by rfl) lb).c6;refine .ae 2 rfl ?_;exact (fk _ _ _ ⟨(v5:Value),((kS++[(gu.mk x2.to (cb.mk dN ((e6 (q.length+1) d (e0 d q (dg q.length d ((eN q d (dS z.word)))) x2.rune))).length dO) ((z.word++(eX x2.rune))))]):List gu),((i-1):Int),((jO++[gg.mk wW (fv.2,oN) (z.word++du fv.1)]):List gg),((i6++[((.slice dN ((e6 (q.length+1) d (e0 d q (dg q.length d ((eN q d (dS z.word)))) x2.rune))).length dO),(e6 (q.length+1) d (e0 d q (dg q.length d ((eN q d (dS z.word)))) x2.rune)))]):List (Value×List Pos)),rfl,rfl,lZ,yr,yq,yo,yp,yu⟩ ik).sub ⟨rfl,rfl,rfl,rfl,rfl,rfl,rfl,rfl,trivial⟩
          refine .ae 1 rfl ?_;have dd:=(cz.dj [0,1,4] (by rfl) lb).dM;refine .ae 3 rfl ?_;exact (bV _ _ _ ⟨(mo:Value),(kS:List gu),(jO:List gg),(i6:List (Value×List Pos)),(dt:cr),rfl,rfl,dd,H2,HY,HX,HW,HV⟩ H0).sub ⟨rfl,rfl,rfl,rfl,rfl,trivial⟩
      refine .go 20 rfl ?_;have f8:=bW.k 3;refine .a_ DD aP f8 ?_;have f9:=gp.zD ox bW.mod Eh;refine .ac (.aE BM rfl (BQ (w0:=de)  ((z.n:Int)) f9 (Nat.le_trans ot bW.mod.size) cu Eg (by first|assumption|(simp; done))) ?_);rintro v3 dv ⟨⟨h2,aa,cf⟩,bQ⟩;have cq:=(bW.fU bQ aa cf).c6;clear cf;have n_:=aa.le;have s7:(nodeAt (fa s) (z.n:Int)).2=z.x.2:=(by rw [oD]);have ui:=A0 gZ (z.n:Int);rw [s7] at ui;have bF:ar (fun _=>False) F w0 dv [bb pF 228 3 v2 ((gm.take ((gm.length-1)))),ff ke V,A dt,az bj [.int .i64 ((z.n:Int)),w1.val,aH z.word] 228,bb eg 233 2 v3 z.x.2]:=(by rw [←s7]; exact cq);have bk:e5 f eo (ql words q d)=e5 f dt (lq q d z 0++lp q d k4):=KJ fr (fun an=>by first|exact Bt la (nB.2 an.2)|exact Bu la (nB.2 an.2)|exact absurd an.1 (by simp [*]));have bD:kH ok f dt (lq q d z 0++lp q d k4):=KK jK (fun an=>by first|exact Bt la (nB.2 an.2)|exact Bu la (nB.2 an.2)|exact absurd an.1 (by simp [*]));obtain ⟨g3,f10,hU,d_⟩:=bF.bU (i:=4) rfl;refine .go 5 rfl ?_;refine .z (.ca Tryz.underlying219 (f10.bl) rfl) ?_;refine .z (.il ((((z.x.2.length:Nat):Int)-1)) rfl rfl ik) ?_;have cz:=(bF.dj [0,1,3,4,2] (by rfl) lb).c6;refine .ae 3 rfl ?_;refine dU (I:=fun m E W=>∃ (mo:Value) (kS:List gu) (i:Int) (jO:List gg) (i6:List (Value×List Pos)),E=[(0,h_),(1,kR),(2,.int .i64 d),(3,.func (.func mN) first.toArray cap.toArray),(8,mo),(9,ptr bj 0),(12,v3),(13,.int .i64 i)]∧m=(i+1).toNat∧ar (fun _=>False) F w0 W [bb pF 228 3 mo kS,ff ke i6,az bj [.int .i64 ((z.n:Int)),w1.val,aH z.word] 228,bb eg 233 2 v3 z.x.2,A dt]∧(cx (mc q d s i6) kS jO)∧(∀ x∈V,x∈i6)∧(lp q d jO=lq q d z (i+1).toNat++lp q d k4)∧(pD jO≤pD k4+pE (ga (eZ z.x.1)) (i+1).toNat)∧(-1≤i∧i < (z.x.2.length:Int))) ?_ ?_
      · refine ⟨_,_,⟨(v2:Value),((gm.take ((gm.length-1))):List gu),((((z.x.2.length:Nat):Int)-1):Int),(k4:List gg),(V:List (Value×List Pos)),rfl,rfl,cz,(by exact c9),(by exact fun x ad=>ad),HZ,ik,ik⟩,⟨rfl,rfl,rfl,rfl,rfl,rfl,rfl,rfl,trivial⟩⟩
      · rintro _ _ en ⟨mo,kS,i,jO,i6,rfl,rfl,cg,rn,wZ,Ad,B5,wU⟩ fk;refine .go 4 rfl ?_;refine .aX (.ge rfl rfl) (fun ck=>?_) fun ck=>?_
        · refine .ae 1 rfl ?_;obtain ⟨g4,f11,h4,hS⟩:=cg.bU (i:=3) rfl;obtain ⟨x2,h5,iv,cY,fM,jy,eL⟩:=ak.eH (P:=Tryz.prog) f11.bl Tryz.underlying219 dY j' (k:=.i64) (n:=i) ((i).toNat) ik aU;refine .go 8 rfl ?_;refine .z (.indexAddr rfl rfl fM) ?_;obtain ⟨fv,wW,oN,jq,kv,o4,mM,im,D9⟩:=zl Ef vB cY;obtain ⟨tN,rfl,r5⟩:=A1 vB H3 jq;have nf:eX x2.rune=du fv.1:=(by rw [kv]; exact xv im);have Ae:=we fv.1;have Mn:(eX x2.rune).length≤4:=(by rw [nf]; exact Ae);have n9:0≤x2.rune∧x2.rune≤1114111:=(by rw [kv]; have:=im.1; omega);have Ed:=GN (q:=q) (d:=d) jq;have kl:=GP jq;have Mo:=Dj fv.2;have Mp:=zF rn;have Mq:=GS (ga (eZ z.x.1)) (i+1).toNat;refine .z (.c4 dY rfl (fun _ e=>e▸eL) rfl) ?_;refine .ac (.alloc dY fun eE kO b3 c' gT da=>?_);have dd:=(cg.dm b3 c' da).n6;have f12:=dd.k 5;refine .ac (.store dY rfl rfl rfl rfl rfl f12 dx fun eO cF gL eT=>?_);have dI:=(dd.cL (cs':=[.int .i32 x2.rune,.int .i64 x2.to]) (i:=5) rfl cF eT).n6;refine .go 5 rfl ?_;have f13:=dI.k 2;refine .a_ DE Dx f13 ?_;have f14:=dI.k 5;refine .a_ pK hn f14 ?_;have f15:=dI.out dL cC;have f16:=dI.Dk (i:=1) rfl (wZ _ Ei);refine .ac (.aE Hf rfl (HR (w0:=eO) (q:=q) (s:=(eN q d (dS z.word))) (d) (x2.rune) (f15.mono (fun b U=>⟨Nat.zero_le _,Nat.lt_of_lt_of_le (fj b U) dI.mod.size⟩)) cu f16 cu aU aU aU) ?_);rintro v4 gi ⟨⟨oc,aq,eA⟩,cG⟩;have dK:=(dI.fU cG aq eA).n7;clear eA;have s4:=aq.le;obtain ⟨g5,f17,kj,ih⟩:=dK.bU (i:=6) rfl;refine .go 5 rfl ?_;refine .ac (.aE Hg rfl (HT (w0:=gi) (s:=(e6 (q.length+1) d (e0 d q (dg q.length d ((eN q d (dS z.word)))) x2.rune)))  (f17.bl.b0 (Nat.zero_le _) f17.lt)) ?_);rintro _ hA ⟨⟨j3,dq,rfl⟩,cX⟩;have ds:=dK.ext cX;cases j3
          case true =>
           replace dq:=dq.symm;refine .z (.not rfl) ?_;refine .go 6 rfl ?_;refine .z (.il ((i-1)) rfl rfl ik) ?_;have fs:=(ds.dj [0,1,2,3,4] (by rfl) lb).c6;refine .ae 2 rfl ?_;exact (fk _ _ _ ⟨(mo:Value),(kS:List gu),((i-1):Int),(jO:List gg),(i6:List (Value×List Pos)),rfl,rfl,fs,yr,yq,yo,yp,yu⟩ ik).sub ⟨rfl,rfl,rfl,rfl,rfl,rfl,rfl,rfl,trivial⟩
          replace dq:=dq.symm;refine .z (.not rfl) ?_;refine .go 4 rfl ?_;have f18:=ds.k 5;refine .a_ pL aP f18 ?_;refine .go 1 rfl ?_;have f19:=ds.k 2;refine .a_ DF dp f19 ?_;refine .a_ pK hn f18 ?_;refine .z (.uQ (by kernel_rfl) Tryz.underlying9 rfl) ?_;refine .z (.tr rfl rfl (by first|omega|(simp only [List.length_append]; omega)|(simp only [List.length_append,List.length_cons,List.length_nil]; omega))) ?_;obtain ⟨g6,f20,jM,nV⟩:=ds.bU (i:=6) rfl;obtain ⟨dN,dO,ju⟩:=f20.shape;subst ju;refine .z (.build (vs:=#[(0,(.int .i64 x2.to:Value)),(1,(.slice dN ((e6 (q.length+1) d (e0 d q (dg q.length d ((eN q d (dS z.word)))) x2.rune))).length dO)),(2,aH ((z.word++(eX x2.rune))))]) (v:=.agg #[.int .i64 x2.to,(.slice dN ((e6 (q.length+1) d (e0 d q (dg q.length d ((eN q d (dS z.word)))) x2.rune))).length dO),aH ((z.word++(eX x2.rune)))]) rfl (fun _=>by kernel_rfl)) ?_;refine .ac (.buildSlice [(.agg #[.int .i64 x2.to,(.slice dN ((e6 (q.length+1) d (e0 d q (dg q.length d ((eN q d (dS z.word)))) x2.rune))).length dO),aH ((z.word++(eX x2.rune)))]:Value)] Tryz.underlying229 q7 rfl rfl rfl lb fun j4 mF dV e8 i1 fZ=>?_);have j2:=ak.eP (enc:=pF) fZ ([(gu.mk x2.to (cb.mk dN ((e6 (q.length+1) d (e0 d q (dg q.length d ((eN q d (dS z.word)))) x2.rune))).length dO) ((z.word++(eX x2.rune))))]:List gu) 1 rfl rfl (by unfold maxLen; omega);have eW:=(ds.iD dV e8 i1 j2).n8;obtain ⟨g8,f21,mj,mO⟩:=eW.bU (i:=0) rfl;have f22:=eW.bl (i:=7) (k:=0) rfl rfl;refine .ac (.append f21 Tryz.underlying229 q7 rfl zE GR rfl rfl (f22) ol gA fun v5 g7 lC dH fG iG uh=>?_);have fR:=(mO _ _ _ _ fG dH iG).n8;clear iG;have fB:=(fR.freeze (i:=6) rfl).n8;have hB:=(fB.aN [0,2,3,4,5,7] 1 6 (by rfl) lb).n7;have ij:=(hB.ty (ff ke (i6++[((.slice dN ((e6 (q.length+1) d (e0 d q (dg q.length d ((eN q d (dS z.word)))) x2.rune))).length dO),(e6 (q.length+1) d (e0 d q (dg q.length d ((eN q d (dS z.word)))) x2.rune)))])) 6 rfl (fun eS bN=>GQ bN)).n7;have HU:=mc.push hd.1 rn dr kL Ee (sh:=cb.mk dN ((e6 (q.length+1) d (e0 d q (dg q.length d ((eN q d (dS z.word)))) x2.rune))).length dO) (L:=(e6 (q.length+1) d (e0 d q (dg q.length d ((eN q d (dS z.word)))) x2.rune))) (wd:=z.word++eX x2.rune) kv mM im rfl (by rw [nf]) r5 xd o4;refine .go 5 rfl ?_;refine .z (.il ((i-1)) rfl rfl ik) ?_;have h6:=(ij.dj [0,6,1,2,3] (by rfl) lb).c6;refine .ae 2 rfl ?_;exact (fk _ _ _ ⟨(v5:Value),((kS++[(gu.mk x2.to (cb.mk dN ((e6 (q.length+1) d (e0 d q (dg q.length d ((eN q d (dS z.word)))) x2.rune))).length dO) ((z.word++(eX x2.rune))))]):List gu),((i-1):Int),((jO++[gg.mk wW (fv.2,oN) (z.word++du fv.1)]):List gg),((i6++[((.slice dN ((e6 (q.length+1) d (e0 d q (dg q.length d ((eN q d (dS z.word)))) x2.rune))).length dO),(e6 (q.length+1) d (e0 d q (dg q.length d ((eN q d (dS z.word)))) x2.rune)))]):List (Value×List Pos)),rfl,rfl,h6,yr,yq,yo,yp,yu⟩ ik).sub ⟨rfl,rfl,rfl,rfl,rfl,rfl,rfl,rfl,trivial⟩
        refine .ae 1 rfl ?_;have cS:=(cg.dj [0,1,4] (by rfl) lb).dM;refine .ae 3 rfl ?_;exact (bV _ _ _ ⟨(mo:Value),(kS:List gu),(jO:List gg),(i6:List (Value×List Pos)),(dt:cr),rfl,rfl,cS,H2,HY,HX,HW,HV⟩ H0).sub ⟨rfl,rfl,rfl,rfl,rfl,trivial⟩
     replace bc:=bc.symm;refine .go 23 rfl ?_;have f8:=bW.k 3;refine .a_ DD aP f8 ?_;have f9:=gp.zD ox bW.mod Eh;refine .ac (.aE BM rfl (BQ (w0:=de)  ((z.n:Int)) f9 (Nat.le_trans ot bW.mod.size) cu Eg (by first|assumption|(simp; done))) ?_);rintro v3 dv ⟨⟨h2,aa,cf⟩,bQ⟩;have cq:=(bW.fU bQ aa cf).c6;clear cf;have n_:=aa.le;have s7:(nodeAt (fa s) (z.n:Int)).2=z.x.2:=(by rw [oD]);have ui:=A0 gZ (z.n:Int);rw [s7] at ui;have bF:ar (fun _=>False) F w0 dv [bb pF 228 3 v2 ((gm.take ((gm.length-1)))),ff ke V,A dt,az bj [.int .i64 ((z.n:Int)),w1.val,aH z.word] 228,bb eg 233 2 v3 z.x.2]:=(by rw [←s7]; exact cq);have bk:e5 f eo (ql words q d)=e5 f dt (lq q d z 0++lp q d k4):=KJ fr (fun an=>by first|exact Bt la (nB.2 an.2)|exact Bu la (nB.2 an.2)|exact absurd an.1 (by simp [*]));have bD:kH ok f dt (lq q d z 0++lp q d k4):=KK jK (fun an=>by first|exact Bt la (nB.2 an.2)|exact Bu la (nB.2 an.2)|exact absurd an.1 (by simp [*]));obtain ⟨g3,f10,hU,d_⟩:=bF.bU (i:=4) rfl;refine .go 5 rfl ?_;refine .z (.ca Tryz.underlying219 (f10.bl) rfl) ?_;refine .z (.il ((((z.x.2.length:Nat):Int)-1)) rfl rfl ik) ?_;have cz:=(bF.dj [0,1,3,4,2] (by rfl) lb).c6;refine .ae 3 rfl ?_;refine dU (I:=fun m E W=>∃ (mo:Value) (kS:List gu) (i:Int) (jO:List gg) (i6:List (Value×List Pos)),E=[(0,h_),(1,kR),(2,.int .i64 d),(3,.func (.func mN) first.toArray cap.toArray),(8,mo),(9,ptr bj 0),(12,v3),(13,.int .i64 i)]∧m=(i+1).toNat∧ar (fun _=>False) F w0 W [bb pF 228 3 mo kS,ff ke i6,az bj [.int .i64 ((z.n:Int)),w1.val,aH z.word] 228,bb eg 233 2 v3 z.x.2,A dt]∧(cx (mc q d s i6) kS jO)∧(∀ x∈V,x∈i6)∧(lp q d jO=lq q d z (i+1).toNat++lp q d k4)∧(pD jO≤pD k4+pE (ga (eZ z.x.1)) (i+1).toNat)∧(-1≤i∧i < (z.x.2.length:Int))) ?_ ?_
     · refine ⟨_,_,⟨(v2:Value),((gm.take ((gm.length-1))):List gu),((((z.x.2.length:Nat):Int)-1):Int),(k4:List gg),(V:List (Value×List Pos)),rfl,rfl,cz,(by exact c9),(by exact fun x ad=>ad),HZ,ik,ik⟩,⟨rfl,rfl,rfl,rfl,rfl,rfl,rfl,rfl,trivial⟩⟩
     · rintro _ _ en ⟨mo,kS,i,jO,i6,rfl,rfl,cg,rn,wZ,Ad,B5,wU⟩ fk;refine .go 4 rfl ?_;refine .aX (.ge rfl rfl) (fun cy=>?_) fun cy=>?_
       · refine .ae 1 rfl ?_;obtain ⟨g4,f11,h4,hS⟩:=cg.bU (i:=3) rfl;obtain ⟨x2,hy,iv,cY,fM,jy,eL⟩:=ak.eH (P:=Tryz.prog) f11.bl Tryz.underlying219 dY j' (k:=.i64) (n:=i) ((i).toNat) ik aU;refine .go 8 rfl ?_;refine .z (.indexAddr rfl rfl fM) ?_;obtain ⟨fv,wW,oN,jq,kv,o4,mM,im,D9⟩:=zl Ef vB cY;obtain ⟨tN,rfl,r5⟩:=A1 vB H3 jq;have nf:eX x2.rune=du fv.1:=(by rw [kv]; exact xv im);have Ae:=we fv.1;have Mn:(eX x2.rune).length≤4:=(by rw [nf]; exact Ae);have n9:0≤x2.rune∧x2.rune≤1114111:=(by rw [kv]; have:=im.1; omega);have Ed:=GN (q:=q) (d:=d) jq;have kl:=GP jq;have Mo:=Dj fv.2;have Mp:=zF rn;have Mq:=GS (ga (eZ z.x.1)) (i+1).toNat;refine .z (.c4 dY rfl (fun _ e=>e▸eL) rfl) ?_;refine .ac (.alloc dY fun eE h5 b3 ck gT da=>?_);have dd:=(cg.dm b3 ck da).n6;have f12:=dd.k 5;refine .ac (.st dY f12 fun eO cF eT=>?_);have dI:=(dd.cL (cs':=[.int .i32 x2.rune,.int .i64 x2.to]) (i:=5) rfl cF eT).n6;refine .go 5 rfl ?_;have f13:=dI.k 2;refine .a_ DE Dx f13 ?_;have f14:=dI.k 5;refine .a_ pK hn f14 ?_;have f15:=dI.out dL cC;have f16:=dI.Dk (i:=1) rfl (wZ _ Ei);refine .ac (.aE Hf rfl (HR (w0:=eO) (q:=q) (s:=(eN q d (dS z.word))) (d) (x2.rune) (f15.mono (fun b U=>⟨Nat.zero_le _,Nat.lt_of_lt_of_le (fj b U) dI.mod.size⟩)) cu f16 cu aU aU aU) ?_);rintro v4 gi ⟨⟨oc,aq,eA⟩,cG⟩;have dK:=(dI.fU cG aq eA).n7;clear eA;have s4:=aq.le;obtain ⟨g5,f17,kj,ih⟩:=dK.bU (i:=6) rfl;refine .go 5 rfl ?_;refine .ac (.aE Hg rfl (HT (w0:=gi) (s:=(e6 (q.length+1) d (e0 d q (dg q.length d ((eN q d (dS z.word)))) x2.rune)))  (f17.bl.b0 (Nat.zero_le _) f17.lt)) ?_);rintro _ hA ⟨⟨kO,c',rfl⟩,cX⟩;have ds:=dK.ext cX;cases kO
         case true =>
          replace c':=c'.symm;refine .z (.not rfl) ?_;refine .go 6 rfl ?_;refine .z (.il ((i-1)) rfl rfl ik) ?_;have fs:=(ds.dj [0,1,2,3,4] (by rfl) lb).c6;refine .ae 2 rfl ?_;exact (fk _ _ _ ⟨(mo:Value),(kS:List gu),((i-1):Int),(jO:List gg),(i6:List (Value×List Pos)),rfl,rfl,fs,yr,yq,yo,yp,yu⟩ ik).sub ⟨rfl,rfl,rfl,rfl,rfl,rfl,rfl,rfl,trivial⟩
         replace c':=c'.symm;refine .z (.not rfl) ?_;refine .go 4 rfl ?_;have f18:=ds.k 5;refine .a_ pL aP f18 ?_;refine .go 1 rfl ?_;have f19:=ds.k 2;refine .a_ DF dp f19 ?_;refine .a_ pK hn f18 ?_;refine .z (.uQ (by kernel_rfl) Tryz.underlying9 rfl) ?_;refine .z (.tr rfl rfl (by first|omega|(simp only [List.length_append]; omega)|(simp only [List.length_append,List.length_cons,List.length_nil]; omega))) ?_;obtain ⟨g6,f20,jM,nV⟩:=ds.bU (i:=6) rfl;obtain ⟨dN,dO,ju⟩:=f20.shape;subst ju;refine .z (.build (vs:=#[(0,(.int .i64 x2.to:Value)),(1,(.slice dN ((e6 (q.length+1) d (e0 d q (dg q.length d ((eN q d (dS z.word)))) x2.rune))).length dO)),(2,aH ((z.word++(eX x2.rune))))]) (v:=.agg #[.int .i64 x2.to,(.slice dN ((e6 (q.length+1) d (e0 d q (dg q.length d ((eN q d (dS z.word)))) x2.rune))).length dO),aH ((z.word++(eX x2.rune)))]) rfl (fun _=>by kernel_rfl)) ?_;refine .ac (.buildSlice [(.agg #[.int .i64 x2.to,(.slice dN ((e6 (q.length+1) d (e0 d q (dg q.length d ((eN q d (dS z.word)))) x2.rune))).length dO),aH ((z.word++(eX x2.rune)))]:Value)] Tryz.underlying229 q7 rfl rfl rfl lb fun j4 j3 dV dq i1 fZ=>?_);have j2:=ak.eP (enc:=pF) fZ ([(gu.mk x2.to (cb.mk dN ((e6 (q.length+1) d (e0 d q (dg q.length d ((eN q d (dS z.word)))) x2.rune))).length dO) ((z.word++(eX x2.rune))))]:List gu) 1 rfl rfl (by unfold maxLen; omega);have eW:=(ds.iD dV dq i1 j2).n8;obtain ⟨g8,f21,mj,mO⟩:=eW.bU (i:=0) rfl;have f22:=eW.bl (i:=7) (k:=0) rfl rfl;refine .ac (.append f21 Tryz.underlying229 q7 rfl zE GR rfl rfl (f22) ol gA fun v5 g7 lC dH fG iG uh=>?_);have fR:=(mO _ _ _ _ fG dH iG).n8;clear iG;have fB:=(fR.freeze (i:=6) rfl).n8;have hB:=(fB.aN [0,2,3,4,5,7] 1 6 (by rfl) lb).n7;have ij:=(hB.ty (ff ke (i6++[((.slice dN ((e6 (q.length+1) d (e0 d q (dg q.length d ((eN q d (dS z.word)))) x2.rune))).length dO),(e6 (q.length+1) d (e0 d q (dg q.length d ((eN q d (dS z.word)))) x2.rune)))])) 6 rfl (fun eS bN=>GQ bN)).n7;have HU:=mc.push hd.1 rn dr kL Ee (sh:=cb.mk dN ((e6 (q.length+1) d (e0 d q (dg q.length d ((eN q d (dS z.word)))) x2.rune))).length dO) (L:=(e6 (q.length+1) d (e0 d q (dg q.length d ((eN q d (dS z.word)))) x2.rune))) (wd:=z.word++eX x2.rune) kv mM im rfl (by rw [nf]) r5 xd o4;refine .go 5 rfl ?_;refine .z (.il ((i-1)) rfl rfl (by omega)) ?_;have h6:=(ij.dj [0,6,1,2,3] (by rfl) lb).c6;refine .ae 2 rfl ?_;exact (fk _ _ _ ⟨(v5:Value),((kS++[(gu.mk x2.to (cb.mk dN ((e6 (q.length+1) d (e0 d q (dg q.length d ((eN q d (dS z.word)))) x2.rune))).length dO) ((z.word++(eX x2.rune))))]):List gu),((i-1):Int),((jO++[gg.mk wW (fv.2,oN) (z.word++du fv.1)]):List gg),((i6++[((.slice dN ((e6 (q.length+1) d (e0 d q (dg q.length d ((eN q d (dS z.word)))) x2.rune))).length dO),(e6 (q.length+1) d (e0 d q (dg q.length d ((eN q d (dS z.word)))) x2.rune)))]):List (Value×List Pos)),rfl,rfl,h6,yr,yq,yo,yp,yu⟩ ik).sub ⟨rfl,rfl,rfl,rfl,rfl,rfl,rfl,rfl,trivial⟩
       refine .ae 1 rfl ?_;have cS:=(cg.dj [0,1,4] (by rfl) lb).dM;refine .ae 3 rfl ?_;exact (bV _ _ _ ⟨(mo:Value),(kS:List gu),(jO:List gg),(i6:List (Value×List Pos)),(dt:cr),rfl,rfl,cS,H2,HY,HX,HW,HV⟩ H0).sub ⟨rfl,rfl,rfl,rfl,rfl,trivial⟩
   refine .ae 3 rfl ?_;refine p3 Tryz.func100 rfl ?_;have bR:=(bP.dj [2] (by rfl) (by decide)).cJ;have oT:(e5 f eo (ql words q d)).1=dt:=(by first|(rw [SE fr ⟨vW,nB.1 (Dm la la)⟩ la]; done)|(rw [fr,SI vX ik]; rfl));obtain ⟨cD,c0,c3,cQ⟩:=bR.fin;exact aj.mk ⟨rfl,cD,c0,oT▸c3,cQ⟩
end Go.Proofs
namespace Go.Proofs
open Go.aA Go.ab
theorem agh {w0:World}  {a:dk} {b:dk}  :
 Calls Tryz.prog 90 #[.agg #[.int .i64 a.cd,aH a.word],.agg #[.int .i64 b.cd,aH b.word]] w0 (aj fun aD ai=>aD=.int .i64 (ab.KM a b)∧Ext w0 ai):=by
 have ba:Ext w0 w0:=Mod.refl _ _;refine bS Tryz.func90 rfl Tryz.ntmps90 rfl (.go 2 rfl (.ac (.box [.int .i64 a.cd,aH a.word] rfl rfl fun ai aG au aJ c9 a1=>have bf:=ba.ext au;have dW:=au.size;.ac (.box [.int .i64 b.cd,aH b.word] rfl rfl fun aZ aN ax aK eY bH=>have f1:=a1.ext ax;have bk:=bf.ext ax;have e7:=ax.size;.ae 3 rfl (fx (fun i=>Nat.beq i 4 || Nat.beq i 9 || Nat.beq i 10 || Nat.beq i 11) 13 (fun ah=>Mod (b5 0) aZ ah) mixed (by kernel_rfl) fun bz aM=>have bD:=bk.ext aM;have hx:=aM.size;have jx:Mod (b5 0) aZ bz:=Mod.gW aM;⟨jx,?_⟩)))));rw [show List.range' 0 (Array.size _)=[0,1,2,3,4,5,6,7,8,9,10,11,12] from rfl];refine .z rfl (.fieldAddr G_ rfl) (.z rfl (.cT aP rfl (fun _ an=>(f1.cell 0 _ rfl).bt an (by omega))) (.z rfl (.fieldAddr G_ rfl) (.z rfl (.cT aP rfl (fun _ an=>(bH.cell 0 _ rfl).bt an (by omega))) (.ac rfl (.aE TK rfl (T0 (w0:=bz)  (a.cd) (b.cd) ) ?_)))));rintro _ cj ⟨rfl,aW⟩;have ek:=bD.ext aW;have je:=aW.size;have kx:=jx.ext aW;refine ⟨.inr kx,.z rfl (.fieldAddr G' rfl) (.z rfl (.cT dp rfl (fun _ an=>(f1.cell 1 _ rfl).bt an (by omega))) (.z rfl (.fieldAddr G' rfl) (.z rfl (.cT dp rfl (fun _ an=>(bH.cell 1 _ rfl).bt an (by omega))) (.ac rfl (.aE K_ rfl (Lf (w0:=cj)  a.word b.word ) ?_)))))⟩;rintro _ cM ⟨rfl,bh,n5⟩;have fq:=ek.ext bh;have lv:=bh.size;have mg:=kx.ext bh;refine ⟨.inr mg,.ac rfl (.buildSlice [(.int .i64 ((ab.nR a.cd b.cd)):Value),(.int .i64 ((Lib.compareBytes a.word b.word)):Value)] Tryz.underlying57 aP rfl rfl rfl (by decide) fun de bn bQ aV gh cE=>have h9:=fq.ext bQ;have o6:=bQ.size;have k9:=mg.ext bQ;⟨.inr k9,(have b6:=ak.eP (enc:=aA.encI) cE ([(ab.nR a.cd b.cd),(Lib.compareBytes a.word b.word)]:List Int) 2 rfl rfl (by unfold maxLen; omega);.ac rfl (.aE TJ rfl (T1 (w0:=de) (vals:=[(ab.nR a.cd b.cd),(Lib.compareBytes a.word b.word)])  ((b6).b0 (Nat.zero_le _) (by omega))) ?_))⟩)⟩;rintro _ dv ⟨rfl,b3⟩;have jm:=h9.ext b3;have qp:=b3.size;have lY:=k9.ext b3;exact ⟨.inr lY,.gd 1 rfl (.nil (aL Tryz.func90 rfl rfl (aj.mk ⟨(congrArg (Value.int .i64) (by rfl)),jm⟩)))⟩
theorem agi {w0:World}  {a:dk} {b:dk}  :
 Calls Tryz.prog 44 #[.agg #[.int .i64 a.cd,aH a.word],.agg #[.int .i64 b.cd,aH b.word]] w0 (aj fun aD ai=>(∃ b4:Bool,b4=(ab.vl a b)∧aD=.bool b4)∧Ext w0 ai):=by
 have ba:Ext w0 w0:=Mod.refl _ _;refine bS Tryz.func44 rfl Tryz.ntmps44 rfl (.go 2 rfl (.ac (.box [.int .i64 a.cd,aH a.word] rfl rfl fun ai aG au aJ c9 a1=>have bf:=ba.ext au;have dW:=au.size;.ac (.box [.int .i64 b.cd,aH b.word] rfl rfl fun aZ aN ax aK eY bH=>have f1:=a1.ext ax;have bk:=bf.ext ax;have e7:=ax.size;.go 4 rfl (.z (.c4 nA rfl (fun _ e=>e▸f1.row) rfl) ?_)))));refine .z (.c4 nA rfl (fun _ e=>e▸bH.row) rfl) ?_;refine .ac (.aE aed rfl (agh (w0:=aZ) (a:=a) (b:=b)  ) ?_);rintro _ bz ⟨rfl,aM⟩;have bD:=bk.ext aM;have hx:=aM.size;exact .ev (.lt rfl rfl) fun bn aV=>.ae 2 rfl (aL Tryz.func44 rfl rfl (aj.mk ⟨⟨_,(by first|simp only [ab.vl, *]|(exfalso; omega)),rfl⟩,bD⟩))
end Go.Proofs
namespace Go.Proofs
open Go.aA Go.ab
theorem vC {p:Prop} (h:p:=by first|exact acW (by first|exact SK|exact SL (by omega)|exact SM (by assumption))|(symm; exact (by first|exact SK|exact SL (by omega)|exact SM (by assumption)))|exact acX (KN (by assumption) (by omega) (by assumption))|(rw [(KN (by assumption) (by omega) (by assumption)),←KO (s:=s) (by assumption)]; assumption)|(exfalso; omega)):p:=h
theorem UN {p:Prop} (h:p:=by omega):p:=h
theorem agj {w0:World}  {h_:Value} {fX ew:Nat} {g:List bC} (s:ag) (k:Int) (o7:gp 0 w0 fX ew h_ g) (wM:ew≤w0.heap.size) (Ac:bp k) (aF:s.length≤1000000) :
 Calls Tryz.prog 99 #[h_,aH s,.int .i64 k] w0 (aj fun aD ai=>∃ ec fF,aD=.tuple #[ec,fF]∧ak ie ai (aR w0.heap.size ai.heap.size) ec (hL g s k)∧(∃ b4:Bool,b4=(nZ g s k)∧fF=.bool b4)∧Ext w0 ai):=by
 have ba:Ext w0 w0:=Mod.refl _ _;refine bS Tryz.func99 rfl Tryz.ntmps99 rfl (have n9:=o7;.go 9 rfl ?_);rcases o7 with ⟨ej,qq⟩|⟨aG,wN,hz,ej,qq,sY,BP,tZ⟩
 · subst ej;try subst qq
   exact .z (.nr Tryz.underlying99 rfl rfl) (.ae 20 rfl (bM Tryz.func99 rfl rfl rfl (aj.mk ⟨_,_,rfl,(ak.cast ak.nil vC),⟨_,vC,rfl⟩,ba⟩)))
 · subst ej;have Lr:=(cx.get tZ).1;refine .z (.nr Tryz.underlying99 rfl rfl) (.go 2 rfl (.aX (.lt rfl rfl) (fun aJ=>?_) fun aJ=>?_))
   · exact .ae 17 rfl (bM Tryz.func99 rfl rfl rfl (aj.mk ⟨_,_,rfl,(ak.cast ak.nil vC),⟨_,vC,rfl⟩,ba⟩))
   refine .go 3 rfl (.aX (.gt rfl rfl) (fun aK=>?_) fun aK=>?_)
   · exact .ae 13 rfl (bM Tryz.func99 rfl rfl rfl (aj.mk ⟨_,_,rfl,(ak.cast ak.nil vC),⟨_,vC,rfl⟩,ba⟩))
   refine .go 3 rfl (.ac (.aE La rfl (Lh (w0:=w0)  s aU) ?_));rintro _ ai ⟨⟨bj,aV,rfl⟩,au⟩;have bf:=ba.ext au;have dW:=au.size;cases bj
   case true =>
    replace aV:=aV.symm;refine .z (.not rfl) (.go 7 rfl (.ac (.aE aek rfl (aeS (w0:=ai)  s (by first|assumption|omega|(simp; done))) ?_)));rintro _ aZ ⟨v1,_,rfl,h1,⟨cR,bc,rfl⟩,ax⟩;have bk:=bf.ext ax;have e7:=ax.size;have jl:=h1.le;have:=ab.PT s;exact .ae 5 rfl (bM Tryz.func99 rfl rfl rfl (aj.mk ⟨_,_,rfl,(ak.cast (h1.b0 UN UN) vC),⟨_,vC,rfl⟩,bk⟩))
   replace aV:=aV.symm;exact .z (.not rfl) (.ae 8 rfl (bM Tryz.func99 rfl rfl rfl (aj.mk ⟨_,_,rfl,(ak.cast ak.nil vC),⟨_,vC,rfl⟩,bf⟩)))
theorem pU {p:Prop} (h:p:=by first|exact .inl rfl|exact .inr (by assumption)):p:=h
theorem l2 {p:Prop} (h:p:=by assumption):p:=h
theorem om {p:Prop} (h:p:=by decide):p:=h
theorem agk {w0:World} {F:Nat→Prop} {eu er cm pV nT pW:Nat} {l:List dk} {more:Bool} (x:ag) (d batch:Int) (first:Bool) (after:dk) (hd:bp d) (UO:bp batch) (H4:bp after.cd) (Ej:after.word.length≤1000000) (bg:(bA (R:=fun _=>False) [o5 (R:=fun _=>False) 47 33 4 eu er ((l,more)),az cm [.int .i64 d] 3,az pV [.bool first] 4,az nT [.int .i64 after.cd,aH after.word] 33,az pW [.int .i64 batch] 3]).p F w0) (bO:∀ b,F b→b < w0.heap.size) (Hi:l.length≤1000000) :
 Calls Tryz.prog 101 #[aH x,ptr cm 0,ptr pV 0,ptr nT 0,ptr eu 0,ptr pW 0,ptr er 0] w0 (aj fun aD ai=>aD=.bool (lT first after batch d (l,more) x).2∧Mod F w0 ai∧∃ cO,(bA (R:=fun _=>False) [o5 (R:=fun _=>False) 47 33 4 eu er ((lT first after batch d (l,more) x).1),az cm [.int .i64 d] 3,az pV [.bool first] 4,az nT [.int .i64 after.cd,aH after.word] 33,az pW [.int .i64 batch] 3]).p cO ai∧∀ b,cO b→b < ai.heap.size∧(F b∨w0.heap.size≤b)):=by
 have gB:=ar.nu bg (fun b U=>⟨bO b U,id⟩) (fun _ h=>h.elim);have cP:=(gB.un 0 rfl [] (by rfl) (by decide)).c6;obtain ⟨e2,bx⟩:=cP.iO (i:=0) rfl;change ar (fun _=>False) F w0 w0 [bA [az eu [e2] 47,bb hK 33 2 e2 (((l,more)).1),az er [.bool ((l,more)).2] 4],az cm [.int .i64 d] 3,az pV [.bool first] 4,az nT [.int .i64 after.cd,aH after.word] 33,az pW [.int .i64 batch] 3] at bx;have bJ:=(bx.un 0 rfl [1,2,3,4] (by rfl) om).n7;have b2:ar (fun _=>False) F w0 w0 [az cm [.int .i64 d] 3,az pV [.bool first] 4,az nT [.int .i64 after.cd,aH after.word] 33,az pW [.int .i64 batch] 3,az eu [e2] 47,bb hK 33 2 e2 l,az er [.bool more] 4]:=bJ;refine bS Tryz.func101 rfl Tryz.ntmps101 rfl (have f1:=b2.k 0;.go 6 rfl (.z (.fV aP f1) ?_));refine .go 1 rfl (.z (.build (vs:=#[(0,(.int .i64 d:Value)),(1,aH x)]) (v:=.agg #[.int .i64 d,aH x]) rfl (fun _=>by kernel_rfl)) (.ac (.alloc nA fun ai aG au aJ c9 a1=>?_)));have bo:=(b2.dm au aJ a1).n8;have f2:=bo.k 7;refine .ac (.st nA f2 fun aZ ax bH=>have bR:=(bo.cL (cs':=[.int .i64 d,aH x]) (i:=7) rfl ax bH).n8;have f3:=bR.k 1;.go 5 rfl (.z (.fV fW f3) ?_))
 cases first
 case true =>
  refine .z (.not rfl) (have f4:=bR.k 4;.go 11 rfl (.z (.fV sQ f4) ?_));obtain ⟨g1,f5,b6,bw⟩:=bR.bU (i:=5) rfl;refine .z (.ca Tryz.underlying47 (f5.bl) rfl) (have f6:=bR.k 3;.z (.fV aP f6) (.h8 (.eq rfl rfl) (fun aK=>?_) fun aK=>?_))
  · refine .ae 2 rfl (have f7:=bR.k 6;.go 2 rfl (.ac (.store fW rfl rfl rfl rfl rfl f7 dx fun bz aM gh cE=>?_)));have cv:=(bR.cL (cs':=[.bool true]) (i:=6) rfl aM cE).n8;have f8:=cv.k 6;refine .go 4 rfl (.z (.fV fW f8) (.z (.not rfl) ?_));refine .ae 2 rfl (aL Tryz.func101 rfl rfl ?_);have cI:=(cv.bn [0,1,2,3,7] 4 5 6 (by rfl) om).n6;have b8:ar (fun _=>False) F w0 bz [az cm [.int .i64 d] 3,az pV [.bool true] 4,az nT [.int .i64 after.cd,aH after.word] 33,az pW [.int .i64 batch] 3,az aG [.int .i64 d,aH x] 33,o5 47 33 4 eu er ((l,true))]:=cI.hJ e2 (i:=5) rfl;have bW:=(b8.cR [4] 5 0 1 2 3 (by rfl) om).cK;have ct:=(bW.dj [1] (by rfl) (by decide)).cJ;obtain ⟨cD,c0,c3,cQ⟩:=ct.fin;have mq:lT true after batch d (l,more) x=((l,true),false):=(by first|exact x0 l2|exact x1 pU l2|exact x3 pU l2);exact aj.mk ⟨by rw [mq]; rfl,cD,c0,by rw [mq]; exact c3,cQ⟩
  refine .go 4 rfl (.z (.fV sQ f4) (have f7:=bR.k 7;.z (.c4 nA rfl (fun _ e=>e▸f7.row) rfl) ?_));refine .ac (.buildSlice [(.agg #[.int .i64 d,aH x]:Value)] Tryz.underlying47 nA rfl rfl rfl om fun bz bn aM aV gh cE=>?_);have dG:=ak.eP (enc:=hK) cE ([(dk.mk d x)]:List dk) 1 rfl rfl (by unfold maxLen; omega);have cI:=(bR.iD aM aV gh dG).iZ;obtain ⟨g3,f8,e1,cB⟩:=cI.bU (i:=5) rfl;have f9:=cI.bl (i:=8) (k:=0) rfl rfl;refine .ac (.append f8 Tryz.underlying47 nA rfl GU SJ rfl rfl (f9) ol gA fun v1 g2 cj b7 aW cf gT=>?_);have b8:=(cB _ _ _ _ aW b7 cf).iZ;clear cf;obtain ⟨g4,f10,f',d_⟩:=b8.bU (i:=5) rfl;obtain ⟨br,bs,ej⟩:=f10.shape;subst ej;have f11:=b8.k 4;refine .ac (.store sQ rfl rfl rfl rfl rfl f11 dx fun cM bh gL da=>have bW:=(b8.cL (cs':=[(.slice br ((l++[(dk.mk d x)])).length bs)]) (i:=4) rfl bh da).iZ;have f12:=bW.k 6;.go 4 rfl (.z (.fV fW f12) ?_));cases more
  case true =>
   refine .z (.not rfl) (.ae 2 rfl (aL Tryz.func101 rfl rfl ?_));have ct:=(bW.bn [0,1,2,3,7,8] 4 5 6 (by rfl) om).n7;have cq:ar (fun _=>False) F w0 cM [az cm [.int .i64 d] 3,az pV [.bool true] 4,az nT [.int .i64 after.cd,aH after.word] 33,az pW [.int .i64 batch] 3,az aG [.int .i64 d,aH x] 33,ff hK [((.slice (some ⟨bn,0,none⟩) 1 1),[(dk.mk d x)])],o5 47 33 4 eu er (((l++[(dk.mk d x)]),true))]:=ct.hJ (.slice br ((l++[(dk.mk d x)])).length bs) (i:=6) rfl;have bF:=(cq.cR [4,5] 6 0 1 2 3 (by rfl) om).dM;have cg:=(bF.dj [2] (by rfl) (by decide)).cJ;obtain ⟨cD,c0,c3,cQ⟩:=cg.fin;have mq:lT true after batch d (l,true) x=(((l++[(dk.mk d x)]),true),false):=(by first|exact x0 l2|exact x1 pU l2|exact x3 pU l2);exact aj.mk ⟨by rw [mq]; rfl,cD,c0,by rw [mq]; exact c3,cQ⟩
  refine .z (.not rfl) (.ae 2 rfl (aL Tryz.func101 rfl rfl ?_));have ct:=(bW.bn [0,1,2,3,7,8] 4 5 6 (by rfl) om).n7;have cq:ar (fun _=>False) F w0 cM [az cm [.int .i64 d] 3,az pV [.bool true] 4,az nT [.int .i64 after.cd,aH after.word] 33,az pW [.int .i64 batch] 3,az aG [.int .i64 d,aH x] 33,ff hK [((.slice (some ⟨bn,0,none⟩) 1 1),[(dk.mk d x)])],o5 47 33 4 eu er (((l++[(dk.mk d x)]),false))]:=ct.hJ (.slice br ((l++[(dk.mk d x)])).length bs) (i:=6) rfl;have bF:=(cq.cR [4,5] 6 0 1 2 3 (by rfl) om).dM;have cg:=(bF.dj [2] (by rfl) (by decide)).cJ;obtain ⟨cD,c0,c3,cQ⟩:=cg.fin;have mq:lT true after batch d (l,false) x=(((l++[(dk.mk d x)]),false),true):=(by first|exact x0 l2|exact x1 pU l2|exact x3 pU l2);exact aj.mk ⟨by rw [mq]; rfl,cD,c0,by rw [mq]; exact c3,cQ⟩
 refine .z (.not rfl) (have f4:=bR.k 2;.go 1 rfl (.z (.c4 nA rfl (fun _ e=>e▸f4.row) rfl) ?_));have f5:=bR.k 7;refine .z (.c4 nA rfl (fun _ e=>e▸f5.row) rfl) ?_;refine .ac (.aE ad_ rfl (agi (w0:=aZ) (a:=(dk.mk after.cd after.word)) (b:=(dk.mk d x))  ) ?_);rintro _ bz ⟨⟨aN,aK,rfl⟩,aM⟩;have cv:=bR.ext aM;cases aN
 case true =>
  replace aK:=aK.symm;refine .z (.not rfl) (have f6:=cv.k 4;.go 6 rfl (.z (.fV sQ f6) ?_));obtain ⟨g1,f7,b6,bw⟩:=cv.bU (i:=5) rfl;refine .z (.ca Tryz.underlying47 (f7.bl) rfl) (have f8:=cv.k 3;.z (.fV aP f8) (.h8 (.eq rfl rfl) (fun aV=>?_) fun aV=>?_))
  · refine .ae 2 rfl (have f9:=cv.k 6;.go 2 rfl (.ac (.store fW rfl rfl rfl rfl rfl f9 dx fun cj aW gh cE=>?_)));have cI:=(cv.cL (cs':=[.bool true]) (i:=6) rfl aW cE).n8;have f10:=cI.k 6;refine .go 4 rfl (.z (.fV fW f10) (.z (.not rfl) ?_));refine .ae 2 rfl (aL Tryz.func101 rfl rfl ?_);have b8:=(cI.bn [0,1,2,3,7] 4 5 6 (by rfl) om).n6;have bW:ar (fun _=>False) F w0 cj [az cm [.int .i64 d] 3,az pV [.bool false] 4,az nT [.int .i64 after.cd,aH after.word] 33,az pW [.int .i64 batch] 3,az aG [.int .i64 d,aH x] 33,o5 47 33 4 eu er ((l,true))]:=b8.hJ e2 (i:=5) rfl;have ct:=(bW.cR [4] 5 0 1 2 3 (by rfl) om).cK;have cq:=(ct.dj [1] (by rfl) (by decide)).cJ;obtain ⟨cD,c0,c3,cQ⟩:=cq.fin;have mq:lT false after batch d (l,more) x=((l,true),false):=(by first|exact x0 l2|exact x1 pU l2|exact x3 pU l2);exact aj.mk ⟨by rw [mq]; rfl,cD,c0,by rw [mq]; exact c3,cQ⟩
  refine .go 4 rfl (.z (.fV sQ f6) (have f9:=cv.k 7;.z (.c4 nA rfl (fun _ e=>e▸f9.row) rfl) ?_));refine .ac (.buildSlice [(.agg #[.int .i64 d,aH x]:Value)] Tryz.underlying47 nA rfl rfl rfl om fun cj bj aW bc gh cE=>?_);have dG:=ak.eP (enc:=hK) cE ([(dk.mk d x)]:List dk) 1 rfl rfl (by unfold maxLen; omega);have b8:=(cv.iD aW bc gh dG).iZ;obtain ⟨g3,f10,e1,cB⟩:=b8.bU (i:=5) rfl;have f11:=b8.bl (i:=8) (k:=0) rfl rfl;refine .ac (.append f10 Tryz.underlying47 nA rfl GU SJ rfl rfl (f11) ol gA fun v1 g2 cM b7 bh cf gT=>?_);have bW:=(cB _ _ _ _ bh b7 cf).iZ;clear cf;obtain ⟨g4,f12,f',d_⟩:=bW.bU (i:=5) rfl;obtain ⟨br,bs,ej⟩:=f12.shape;subst ej;have f13:=bW.k 4;refine .ac (.st sQ f13 fun de bQ da=>have ct:=(bW.cL (cs':=[(.slice br ((l++[(dk.mk d x)])).length bs)]) (i:=4) rfl bQ da).iZ;have f14:=ct.k 6;.go 4 rfl (.z (.fV fW f14) ?_));cases more
  case true =>
   refine .z (.not rfl) (.ae 2 rfl (aL Tryz.func101 rfl rfl ?_));have cq:=(ct.bn [0,1,2,3,7,8] 4 5 6 (by rfl) om).n7;have bF:ar (fun _=>False) F w0 de [az cm [.int .i64 d] 3,az pV [.bool false] 4,az nT [.int .i64 after.cd,aH after.word] 33,az pW [.int .i64 batch] 3,az aG [.int .i64 d,aH x] 33,ff hK [((.slice (some ⟨bj,0,none⟩) 1 1),[(dk.mk d x)])],o5 47 33 4 eu er (((l++[(dk.mk d x)]),true))]:=cq.hJ (.slice br ((l++[(dk.mk d x)])).length bs) (i:=6) rfl;have cg:=(bF.cR [4,5] 6 0 1 2 3 (by rfl) om).dM;have cz:=(cg.dj [2] (by rfl) (by decide)).cJ;obtain ⟨cD,c0,c3,cQ⟩:=cz.fin;have mq:lT false after batch d (l,true) x=(((l++[(dk.mk d x)]),true),false):=(by first|exact x0 l2|exact x1 pU l2|exact x3 pU l2);exact aj.mk ⟨by rw [mq]; rfl,cD,c0,by rw [mq]; exact c3,cQ⟩
  refine .z (.not rfl) (.ae 2 rfl (aL Tryz.func101 rfl rfl ?_));have cq:=(ct.bn [0,1,2,3,7,8] 4 5 6 (by rfl) om).n7;have bF:ar (fun _=>False) F w0 de [az cm [.int .i64 d] 3,az pV [.bool false] 4,az nT [.int .i64 after.cd,aH after.word] 33,az pW [.int .i64 batch] 3,az aG [.int .i64 d,aH x] 33,ff hK [((.slice (some ⟨bj,0,none⟩) 1 1),[(dk.mk d x)])],o5 47 33 4 eu er (((l++[(dk.mk d x)]),false))]:=cq.hJ (.slice br ((l++[(dk.mk d x)])).length bs) (i:=6) rfl;have cg:=(bF.cR [4,5] 6 0 1 2 3 (by rfl) om).dM;have cz:=(cg.dj [2] (by rfl) (by decide)).cJ;obtain ⟨cD,c0,c3,cQ⟩:=cz.fin;have mq:lT false after batch d (l,false) x=(((l++[(dk.mk d x)]),false),true):=(by first|exact x0 l2|exact x1 pU l2|exact x3 pU l2);exact aj.mk ⟨by rw [mq]; rfl,cD,c0,by rw [mq]; exact c3,cQ⟩
 replace aK:=aK.symm;refine .z (.not rfl) (have f6:=cv.k 6;.go 8 rfl (.z (.fV fW f6) ?_));cases more
 case true =>
  refine .z (.not rfl) (.ae 2 rfl (aL Tryz.func101 rfl rfl ?_));have cI:=(cv.bn [0,1,2,3,7] 4 5 6 (by rfl) om).n6;have b8:ar (fun _=>False) F w0 bz [az cm [.int .i64 d] 3,az pV [.bool false] 4,az nT [.int .i64 after.cd,aH after.word] 33,az pW [.int .i64 batch] 3,az aG [.int .i64 d,aH x] 33,o5 47 33 4 eu er ((l,true))]:=cI.hJ e2 (i:=5) rfl;have bW:=(b8.cR [4] 5 0 1 2 3 (by rfl) om).cK;have ct:=(bW.dj [1] (by rfl) (by decide)).cJ;obtain ⟨cD,c0,c3,cQ⟩:=ct.fin;have mq:lT false after batch d (l,true) x=((l,true),false):=(by first|exact x0 l2|exact x1 pU l2|exact x3 pU l2);exact aj.mk ⟨by rw [mq]; rfl,cD,c0,by rw [mq]; exact c3,cQ⟩
 refine .z (.not rfl) (.ae 2 rfl (aL Tryz.func101 rfl rfl ?_));have cI:=(cv.bn [0,1,2,3,7] 4 5 6 (by rfl) om).n6;have b8:ar (fun _=>False) F w0 bz [az cm [.int .i64 d] 3,az pV [.bool false] 4,az nT [.int .i64 after.cd,aH after.word] 33,az pW [.int .i64 batch] 3,az aG [.int .i64 d,aH x] 33,o5 47 33 4 eu er ((l,false))]:=cI.hJ e2 (i:=5) rfl;have bW:=(b8.cR [4] 5 0 1 2 3 (by rfl) om).cK;have ct:=(bW.dj [1] (by rfl) (by decide)).cJ;obtain ⟨cD,c0,c3,cQ⟩:=ct.fin;have mq:lT false after batch d (l,false) x=((l,false),true):=(by first|exact x0 l2|exact x1 pU l2|exact x3 pU l2);exact aj.mk ⟨by rw [mq]; rfl,cD,c0,by rw [mq]; exact c3,cQ⟩
theorem agl (eu er cm pV nT pW:Nat) (d batch:Int) (first:Bool) (after:dk) (hd:bp d) (UO:bp batch) (H4:bp after.cd) (Ej:after.word.length≤1000000):SD Tryz.prog 101 [] [ptr cm 0,ptr pV 0,ptr nT 0,ptr eu 0,ptr pW 0,ptr er 0] (fun s:List dk×Bool=>bA [o5 47 33 4 eu er s,az cm [.int .i64 d] 3,az pV [.bool first] 4,az nT [.int .i64 after.cd,aH after.word] 33,az pW [.int .i64 batch] 3]) (fun s _=>s.1.length≤1000000) (lT first after batch d) where
 cl:=by kernel_rfl
 call:=fun s F w x h bO c7=>agk (l:=s.1) (more:=s.2) x d batch first after hd UO H4 Ej h bO c7
theorem yv {p:Prop} (h:p:=by first|(rw [SQ (by assumption)]; done)|(rw [SQ (by assumption)])|exact SX zP (n:=hG+1) (.inl ⟨by assumption,by omega⟩) (by assumption)|exact SX zP (n:=hG) (.inr (by omega)) (by assumption)|(rw [KP zP (n:=hG+1) (.inl ⟨by assumption,by omega⟩)])|(rw [KP zP (n:=hG) (.inr (by omega))])|(exfalso; omega)):p:=h
theorem vD {p:Prop} (h:p:=by omega):p:=h
theorem agm {w0:World} {s:ch} {jA:List ag} {h_:Value} {fX ew:Nat} {g:List bC} (iM:ag) (k:Int) (first:Bool) {after:dk} (batch:Int) (o7:gp 0 w0 fX ew h_ g) (wM:ew≤w0.heap.size) (Ac:bp k) (ak8:bp batch) (c7:sC g s jA) (pO:jA.length≤1000) (aF:iM.length≤1000000) (H4:bp after.cd) (Ej:after.word.length≤1000000) :
 Calls Tryz.prog 51 #[h_,aH iM,.int .i64 k,.bool first,.agg #[.int .i64 after.cd,aH after.word],.int .i64 batch] w0 (aj fun aD ai=>∃ ec fF,aD=.tuple #[ec,fF]∧(∃ cZ,Acc hK 33 2 ai cZ ec ((pG g jA iM k first after batch).1)∧(cZ=0∨w0.heap.size < cZ))∧(∃ b4:Bool,b4=((pG g jA iM k first after batch).2)∧fF=.bool b4)∧Ext w0 ai):=by
 have jK:=c7;obtain ⟨ud,⟨rZ,oD,an⟩,L7,HN,kL,dr,ak9⟩:=c7;obtain ⟨lH,q1,gZ⟩:=jK.xy;have LR:fa s=g:=ud.symm;have dz:=ar.hR w0;refine bS Tryz.func51 rfl Tryz.ntmps51 rfl (.go 2 rfl (.ac (.box [.bool first] rfl rfl fun ai aG au aJ c9 a1=>have bx:=(dz.dm au aJ a1).cJ;.ac (.box [.int .i64 after.cd,aH after.word] rfl rfl fun aZ aN ax aK eY bH=>have b2:=(bx.dm ax aK bH).cK;.ac (.box [.int .i64 batch] rfl rfl fun bz bn aM aV gh cE=>have bo:=(b2.dm aM aV cE).dM;have f1:=gp.zD o7 bo.mod (fun _ _ _ h=>h);.go 8 rfl (.ac (.aE aef rfl (agj (w0:=bz)  iM (k) f1 (Nat.le_trans wM bo.mod.size) cu aU) ?_)))))));rintro _ cj ⟨v1,_,rfl,h1,⟨bj,bc,rfl⟩,aW⟩;have cv:=(bo.FV aW h1).bu;have jl:=h1.le;have:=SN g iM k;refine .go 10 rfl ?_;cases bj
 case true =>
  replace bc:=bc.symm;refine .z (.not rfl) (.go 5 rfl (.ac (.alloc sQ fun cM cR bh cy gT da=>have b8:=(cv.dm bh cy da).c6;have f2:=b8.k 2;.go 3 rfl (.z (.fV aP f2) (.z (.max rfl rfl) (.ac (.st aP f2 fun de bQ eT=>have bW:=(b8.cL (cs':=[.int .i64 ((max batch 0))]) (i:=2) rfl bQ eT).c6;.go 3 rfl (.ac (.alloc fW fun dv c8 b3 ck i1 fZ=>have cq:=(bW.dm b3 ck fZ).n6;have f3:=cq.k 5;.ac (.st fW f3 fun en cF oj=>have bF:=(cq.cL (cs':=[.bool false]) (i:=5) rfl cF oj).n6;have cg:ar (fun _=>False) (fun _=>False) w0 en [az aG [.bool first] 4,az aN [.int .i64 after.cd,aH after.word] 33,az bn [.int .i64 ((max batch 0))] 3,ff ie [(v1,(hL g iM k))],az cR [.slice none 0 0] 47,az c8 [.bool false] 4,bb hK 33 2 (.slice none 0 0) []]:=bF.fU (Mod.refl _ _) Acc.nil (.inl rfl);have cz:=(cg.bn [0,1,2,3] 4 6 5 (by rfl) (by decide)).c6;have cS:ar (fun _=>False) (fun _=>False) w0 en [az aG [.bool first] 4,az aN [.int .i64 after.cd,aH after.word] 33,az bn [.int .i64 ((max batch 0))] 3,ff ie [(v1,(hL g iM k))],o5 47 33 4 cR c8 ((hY jA (hL g iM k) first after (max batch 0) 0))]:=cz.hJ (.slice none 0 0) (i:=4) rfl;have zP:nZ g iM k=true:=(by assumption);have UP:=(GV.1 zP).2.1;have L8:=SN g iM k;.go 5 rfl (.z (.bZ ((k+1)) rfl rfl (by omega)) ?_)))))))))));refine .ae 3 rfl (dU (I:=fun m E W=>∃ (hG:Nat),E=[(0,h_),(9,ptr aG 0),(10,ptr aN 0),(11,ptr bn 0),(14,v1),(16,ptr cR 0),(17,ptr c8 0),(31,.int .i64 ((k+1))),(32,.int .i64 (((hG:Nat):Int)))]∧m=(k+1).toNat-hG∧ar (fun _=>False) (fun _=>False) w0 W [az aG [.bool first] 4,az aN [.int .i64 after.cd,aH after.word] 33,az bn [.int .i64 ((max batch 0))] 3,ff ie [(v1,(hL g iM k))],o5 47 33 4 cR c8 ((hY jA (hL g iM k) first after (max batch 0) hG))]∧(false=(hY jA (hL g iM k) first after (max batch 0) hG).2)∧((hG:Int)≤k+1)) ?_ ?_)
  · refine ⟨_,_,⟨(0:Nat),rfl,rfl,cS,(by rfl),vD⟩,⟨rfl,rfl,rfl,rfl,rfl,rfl,rfl,rfl,rfl,trivial⟩⟩
  · rintro _ _ eE ⟨hG,rfl,rfl,dd,t_,Hu⟩ bV;refine .go 2 rfl (.aX (.lt rfl rfl) (fun c'=>?_) fun c'=>?_)
    · refine .go 9 rfl (.ac (.alloc aP fun eO h5 cG dq D3 wK=>have dI:=dd.ext cG;have eF:=(dd.dm cG dq wK).n6;have f4:=eF.k 5;.ac (.st aP f4 fun gi cX agn=>have dK:=(eF.cL (cs':=[.int .i64 (((hG:Nat):Int))]) (i:=5) rfl cX agn).n6;have f5:=dK.k 5;.go 5 rfl (.z (.fV aP f5) (.z (.makeFunc (first:=[]) (cap:=[ptr h5 0,ptr aG 0,ptr aN 0,ptr cR 0,ptr bn 0,ptr c8 0]) rfl rfl) ?_)))));have ds:=(dK.cR [3] 4 5 0 1 2 (by rfl) (by decide)).cK;have f6:=gp.zD o7 ds.mod (fun _ _ _ h=>h);obtain ⟨jY,ak_,et,UQ,UR,dZ,US,d'⟩:=ds.CV (i:=1) (j:=0) rfl rfl (by decide);have ak':=GW jA (hL g iM k) first after (max batch 0) hG
      have ala:hG*jA.length≤5*jA.length:=Nat.mul_le_mul_right _ vD;refine .ac (.aE aeg rfl (agb (s:=s) (words:=jA) (w0:=gi) (((hG:Nat):Int)) (hY jA (hL g iM k) first after (max batch 0) hG) (agl cR c8 h5 aG aN bn (((hG:Nat):Int)) (max batch 0) first after vD vD H4 Ej) et (fun b U=>(dZ b U).2) (ud▸f6) (Nat.le_trans wM ds.mod.size) (ac1 dZ (fun _ h=>h) wM) (C2 UQ) UR US vD vD (ud▸oD) an L7 HN kL dr (ud▸gZ) (ac0 HN pO) (SS first after (max batch 0) _ 1000000 _ _ (by have:=SO jA (hL g iM k) (((hG:Nat):Int)); omega))) ?_);rintro _ hA ⟨rfl,dV,gb,gV,fu⟩;have fs:ar (fun _=>False) (fun _=>False) w0 hA [ff ie [(v1,(hL g iM k))],bA [o5 47 33 4 cR c8 ((hY jA (hL g iM k) first after (max batch 0) (hG+1))),az h5 [.int .i64 (((hG:Nat):Int))] 3,az aG [.bool first] 4,az aN [.int .i64 after.cd,aH after.word] 33,az bn [.int .i64 (max batch 0)] 3]]:=d' _ _ _ dV (ac2 t_▸gV) fu;clear et UQ UR dZ US d';have eW:=(fs.un 1 rfl [0] (by rfl) (by decide)).n6;have fR:ar (fun _=>False) (fun _=>False) w0 hA [ff ie [(v1,(hL g iM k))],o5 47 33 4 cR c8 ((hY jA (hL g iM k) first after (max batch 0) (hG+1))),az h5 [.int .i64 (((hG:Nat):Int))] 3,az aG [.bool first] 4,az aN [.int .i64 after.cd,aH after.word] 33,az bn [.int .i64 (max batch 0)] 3]:=eW;obtain ⟨kO,e8⟩:∃ b,b=((hY jA (hL g iM k) first after (max batch 0) (hG+1))).2:=⟨_,rfl⟩;obtain ⟨e2,fB⟩:=fR.iO (i:=1) rfl;change ar (fun _=>False) (fun _=>False) w0 hA [ff ie [(v1,(hL g iM k))],bA [az cR [e2] 47,bb hK 33 2 e2 (((hY jA (hL g iM k) first after (max batch 0) (hG+1))).1),az c8 [.bool ((hY jA (hL g iM k) first after (max batch 0) (hG+1))).2] 4],az h5 [.int .i64 (((hG:Nat):Int))] 3,az aG [.bool first] 4,az aN [.int .i64 after.cd,aH after.word] 33,az bn [.int .i64 (max batch 0)] 3] at fB;rw [←e8] at fB;have hB:=(fB.un 1 rfl [0,2,3,4,5] (by rfl) (by decide)).n8;have Ui:=GW jA (hL g iM k) first after (max batch 0) (hG+1)
      have ago:(hG+1)*jA.length≤5*jA.length:=Nat.mul_le_mul_right _ vD;have f7:=hB.k 7;refine .go 3 rfl (.z (.fV fW f7) (.ae 1 rfl ?_));cases kO
      case true =>
       replace e8:=e8.symm;refine .ae 3 rfl (fx (fun i=>false) 5 (fun ah=>Mod (b5 0) hA ah) mixed (by kernel_rfl) fun j4 fG=>have ij:=hB.ext fG;have Ek:Mod (b5 0) hA j4:=Mod.gW fG;⟨Ek,?_⟩);rw [show List.range' 0 (Array.size _)=[0,1,2,3,4] from rfl];have f8:=hB.k 5;refine .z rfl (.cT sQ rfl (fun _ an=>(f8.cell 0 _ rfl).bt an (Nat.succ_ne_zero _))) (.z rfl (.cT fW rfl (fun _ an=>(f7.cell 0 _ rfl).bt an (Nat.succ_ne_zero _))) (.z rfl (.not rfl) (.gd 2 rfl (.nil (bM Tryz.func51 rfl rfl rfl ?_)))));obtain ⟨g1,b7,cf⟩:=ij.vb (i:=6) rfl;exact aj.mk ⟨_,_,rfl,⟨_,Acc.cast b7 yv,cf⟩,⟨_,yv,rfl⟩,ij.mod⟩
      replace e8:=e8.symm;have ij:=(hB.bn [0,1,2,3,4] 5 6 7 (by rfl) (by decide)).n6;have h6:ar (fun _=>False) (fun _=>False) w0 hA [ff ie [(v1,(hL g iM k))],az h5 [.int .i64 (((hG:Nat):Int))] 3,az aG [.bool first] 4,az aN [.int .i64 after.cd,aH after.word] 33,az bn [.int .i64 (max batch 0)] 3,o5 47 33 4 cR c8 ((((hY jA (hL g iM k) first after (max batch 0) (hG+1))).1,false))]:=ij.hJ e2 (i:=5) rfl;have lZ:=(h6.ty (o5 47 33 4 cR c8 ((hY jA (hL g iM k) first after (max batch 0) (hG+1)))) 5 rfl (fun eS bN=>by rw [show (hY jA (hL g iM k) first after (max batch 0) (hG+1))=((hY jA (hL g iM k) first after (max batch 0) (hG+1)).1,false) from Prod.ext rfl (by show _=false; assumption)]; exact bN)).n6;exact .go 4 rfl (.z (.bZ (((hG+1:Nat):Int)) rfl rfl vD) (have kA:=(lZ.dj [2,3,4,0,5] (by rfl) (by decide)).c6;.ae 2 rfl ((bV _ _ _ ⟨(hG+1:Nat),rfl,rfl,kA,(by first|exact (by assumption:_=(hY jA (hL g iM k) first after (max batch 0) (hG+1)).2)|(symm; assumption)|(exfalso; omega)),(by first|omega|(exfalso; omega))⟩ vD).sub ⟨rfl,rfl,rfl,rfl,rfl,rfl,rfl,rfl,rfl,trivial⟩)))
    refine .ae 2 rfl ?_;obtain ⟨h5,dq⟩:∃ b,b=((hY jA (hL g iM k) first after (max batch 0) hG)).2:=⟨_,rfl⟩;obtain ⟨e2,dI⟩:=dd.iO (i:=4) rfl;change ar (fun _=>False) (fun _=>False) w0 eE [az aG [.bool first] 4,az aN [.int .i64 after.cd,aH after.word] 33,az bn [.int .i64 ((max batch 0))] 3,ff ie [(v1,(hL g iM k))],bA [az cR [e2] 47,bb hK 33 2 e2 (((hY jA (hL g iM k) first after (max batch 0) hG)).1),az c8 [.bool ((hY jA (hL g iM k) first after (max batch 0) hG)).2] 4]] at dI;rw [←dq] at dI;have eF:=(dI.un 4 rfl [0,1,2,3] (by rfl) (by decide)).n7;have Ui:=GW jA (hL g iM k) first after (max batch 0) hG
    have ago:hG*jA.length≤5*jA.length:=Nat.mul_le_mul_right _ vD;refine .ae 3 rfl (fx (fun i=>false) 5 (fun ah=>Mod (b5 0) eE ah) mixed (by kernel_rfl) fun eO cG=>have dK:=eF.ext cG;have rf:Mod (b5 0) eE eO:=Mod.gW cG;⟨rf,?_⟩);rw [show List.range' 0 (Array.size _)=[0,1,2,3,4] from rfl];have f4:=eF.k 4;refine .z rfl (.cT sQ rfl (fun _ an=>(f4.cell 0 _ rfl).bt an (Nat.succ_ne_zero _))) (have f5:=eF.k 6;.z rfl (.cT fW rfl (fun _ an=>(f5.cell 0 _ rfl).bt an (Nat.succ_ne_zero _))) ?_);cases h5
    case true =>
     replace dq:=dq.symm;refine .z rfl (.not rfl) (.gd 2 rfl (.nil (bM Tryz.func51 rfl rfl rfl ?_)));obtain ⟨g1,b7,cf⟩:=dK.vb (i:=5) rfl;exact aj.mk ⟨_,_,rfl,⟨_,Acc.cast b7 yv,cf⟩,⟨_,yv,rfl⟩,dK.mod⟩
    replace dq:=dq.symm;refine .z rfl (.not rfl) (.gd 2 rfl (.nil (bM Tryz.func51 rfl rfl rfl ?_)));obtain ⟨g1,b7,cf⟩:=dK.vb (i:=5) rfl;exact aj.mk ⟨_,_,rfl,⟨_,Acc.cast b7 yv,cf⟩,⟨_,yv,rfl⟩,dK.mod⟩
 replace bc:=bc.symm;exact .z (.not rfl) (.ae 7 rfl (bM Tryz.func51 rfl rfl rfl (aj.mk ⟨_,_,rfl,⟨0,Acc.cast Acc.nil yv,.inl rfl⟩,⟨_,yv,rfl⟩,cv.mod⟩)))
end Go.Proofs
namespace Go.ab
open Go.aA
def w3 (K:List cW) (s:Int):Int:=match K.findIdx? fun x=>decide (x.1=s) with|some i=>(i:Int)|none=>-1
theorem agp {K:List cW} {s:Int} (h:iX K s=none):w3 K s=-1:=by
 unfold w3
 have:K.findIdx? (fun x=>decide (x.1=s))=none:=by
  rw [List.findIdx?_eq_none_iff]
  intro x ad
  have:=List.find?_eq_none.1 h x ad
  simpa using this
 rw [this]
theorem agq {K:List cW} {s:Int} {x:cW} (h:iX K s=some x):∃ k:Nat,w3 K s=(k:Int)∧K[k]?=some x∧x.1=s:=by
 obtain ⟨k,h1,aa,aq⟩:=abw h;refine ⟨k,?_,h1,aa⟩;unfold w3
 have:K.findIdx? (fun x=>decide (x.1=s))=some k:=by
  obtain ⟨hk,rfl⟩:=List.getElem?_eq_some_iff.1 h1
  rw [List.findIdx?_eq_some_iff_getElem]
  refine ⟨hk,decide_eq_true aa,fun j aS=>?_⟩
  have:=aq j _ aS (List.getElem?_eq_getElem (by omega))
  simpa using this
 rw [this]
theorem agr {K:List cW} {s:Int} {sh:List Int} {i:Nat} {y:Int} (wh:sh=K.map (·.1)) (ho:∀ z∈sh.take i,z≠s) (av:sh[i]?=some y) (he:y=s):(i:Int)=w3 K s:=by
 subst wh;unfold w3;rw [List.getElem?_map] at av
 cases hk:K[i]? with
 | none=>rw [hk] at av; cases av
 | some x =>
  rw [hk] at av
  have ad:x.1=s:=(Option.some.inj av).trans he
  obtain ⟨pn,zC⟩:=List.getElem?_eq_some_iff.1 hk
  have:K.findIdx? (fun x=>decide (x.1=s))=some i:=by
   rw [List.findIdx?_eq_some_iff_getElem]
   refine ⟨pn,decide_eq_true (by rw [zC]; exact ad),fun j aS=>?_⟩
   have aa:=ho (K[j]'(by omega)).1 (by
    rw [←List.map_take]
    exact List.mem_map_of_mem (List.mem_take_iff_getElem.2 ⟨j,by omega,rfl⟩))
   simpa using aa
  rw [this]
theorem ags {K:List cW} {s:Int} {sh:List Int} {i:Nat} (wh:sh=K.map (·.1)) (ho:∀ z∈sh.take i,z≠s) (al:sh.length≤i):(-1:Int)=w3 K s:=by
 rw [List.take_of_length_le al] at ho;subst wh;unfold w3
 have:K.findIdx? (fun x=>decide (x.1=s))=none:=by
  rw [List.findIdx?_eq_none_iff]
  intro x ad
  have:=ho x.1 (List.mem_map_of_mem ad)
  simpa using this
 rw [this]
theorem agt {sh:List Int} {s y:Int} {i:Nat} (ho:∀ z∈sh.take i,z≠s) (av:sh[i]?=some y) (cA:y≠s):∀ z∈sh.take (i+1),z≠s:=by
 intro z b';rw [List.take_add_one,av] at b';rcases List.mem_append.1 b' with h|h
 · exact ho z h
 · simp only [Option.toList_some,List.mem_singleton] at h; rw [h]; exact cA
theorem UT {K:List cW} (h:oB K) (s:Int):(hl K s).length≤4000000:=by
 unfold hl;split
 · exact Nat.zero_le _
 · rename_i x ad;have:=h.2 _ (Bk ad).2;omega
end Go.ab
namespace Go.aA
open Go Go.ab
section
variable {R F bB:Nat→Prop} {w0 w:World} {L:List (dc R)} {i:Nat} {rows:List lo} {K:List cW}
theorem agu (h:pB w F rows K):rows.map (·.shard)=K.map (·.1):=by
 induction h with
 | nil=>rfl
 | cons h _ bq=>rw [List.map_cons,List.map_cons,bq,h.1]
theorem ar.UU (h:ar R bB w0 w L) (al:L[i]?=some (o3 rows K)):pB w (aR 0 w.heap.size) rows K:=by
 obtain ⟨F,h1,aa⟩:=h.get al;exact pB.mono h1 fun b U=>⟨Nat.zero_le _,aa b U⟩
theorem pB.two (h:pB w F rows K) {k:Nat} {r:lo} (aB:rows[k]?=some r) {y:cW} (av:K[k]?=some y):ak dR w F r.r.val y.2.1∧ak dR w F r.b.val y.2.2:=by
 obtain ⟨e,he,_,cB,d_⟩:=h.at aB;obtain rfl:e=y:=Option.some.inj (he.symm.trans av);exact ⟨cB,d_⟩
end
end Go.aA
namespace Go.aA
open Go
theorem Mr {P:Program} {d:Nat} {xs ys:Array Value} (gs:List Field):∀ (j_:List Field) (w ah:World),(Op.eqFields d xs ys j_).run P w=.ok true ah→(Op.eqFields d xs ys (j_++gs)).run P w=(Op.eqFields d xs ys gs).run P ah
 | [],w,ah,h=>by
  simp only [Op.eqFields,Sem.run_pure,Result.ok.injEq,true_and] at h
  subst h; rfl
 | f::j_,w,ah,h=>by
  rw [List.cons_append]
  simp only [Op.eqFields] at h ⊢
  split at h
  · rename_i aI
    rw [if_pos aI]
    simp only [Sem.run_bind] at h ⊢
    generalize (part f.type xs f.offset).run P w=df at h ⊢
    cases df with
    | ok a ai =>
     simp only [Result.andThen_ok] at h ⊢
     generalize (part f.type ys f.offset).run P ai=El at h ⊢
     cases El with
     | ok b aZ =>
      simp only [Result.andThen_ok] at h ⊢
      generalize (Op.equalIn d f.type a b).run P aZ=Em at h ⊢
      cases Em with
      | ok r bz =>
       simp only [Result.andThen_ok] at h ⊢
       cases r
       · simp at h
       · simp only [Bool.not_true,Bool.false_eq_true,if_false] at h ⊢
         exact Mr gs j_ bz ah h
      | _=>cases h
     | _=>cases h
    | _=>cases h
  · rename_i aI
    rw [if_neg aI]
    exact Mr gs j_ w ah h
theorem Ms {P:Program} {d:Nat} {xs ys:Array Value} (gs:List Field):∀ (j_:List Field) (w ah:World),(Op.eqFields d xs ys j_).run P w=.ok false ah→(Op.eqFields d xs ys (j_++gs)).run P w=.ok false ah
 | [],w,ah,h=>by simp [Op.eqFields] at h
 | f::j_,w,ah,h=>by
  rw [List.cons_append]
  simp only [Op.eqFields] at h ⊢
  split at h
  · rename_i aI
    rw [if_pos aI]
    simp only [Sem.run_bind] at h ⊢
    generalize (part f.type xs f.offset).run P w=df at h ⊢
    cases df with
    | ok a ai =>
     simp only [Result.andThen_ok] at h ⊢
     generalize (part f.type ys f.offset).run P ai=El at h ⊢
     cases El with
     | ok b aZ =>
      simp only [Result.andThen_ok] at h ⊢
      generalize (Op.equalIn d f.type a b).run P aZ=Em at h ⊢
      cases Em with
      | ok r bz =>
       simp only [Result.andThen_ok] at h ⊢
       cases r
       · simpa using h
       · simp only [Bool.not_true,Bool.false_eq_true,if_false] at h ⊢
         exact Ms gs j_ bz ah h
      | _=>cases h
     | _=>cases h
    | _=>cases h
  · rename_i aI
    rw [if_neg aI]
    exact Ms gs j_ w ah h
theorem agv {P:Program} {t t2:TypeId} {xs ys x2 y2:Array Value} {ks ks2:List (Nat×zi)} {q q2:Bool} {k o n by_:Nat} {z:List Value} (bd:P.underlying t=some (.struct (P.fieldsOf t))) (hp:P.stoodInHeld t=false)
 (hk : xB P ((P.fieldsOf t).toList.take k) = some ks) (aO : (((P.fieldsOf t).toList.drop k).map fun f => (f.name != "_", f.type, f.offset)) = [(true, t2, o)])
 (uf:P.underlying t2=some (.struct (P.fieldsOf t2))) (xP:P.stoodInHeld t2=false) (bH:xB P (P.fieldsOf t2).toList=some ks2) (lB:dX P t2=some (true,n,by_,z))
 (dL:k1 ks xs ys=some q) (ad:xs.extract o (o+n)=x2) (av:ys.extract o (o+n)=y2) (Eb:k1 ks2 x2 y2=some q2) (w:World) :
 (Op.equalIn 10000 t (.agg xs) (.agg ys)).run P w=.ok (q && q2) w:=by
 refine (run_equalIn_agg w 9999 t xs ys bd hp).trans ?_;have h1:=FO (P:=P) (xs:=xs) (ys:=ys) (n:=9998) w _ ks q hk dL;have a':(P.fieldsOf t).toList=(P.fieldsOf t).toList.take k++(P.fieldsOf t).toList.drop k:=(List.take_append_drop _ _).symm;rw [a']
 cases q with
 | false =>
  show _=Result.ok false w
  exact Ms _ _ w w h1
 | true =>
  rw [Mr _ _ w w h1]
  obtain ⟨f,Lt,H5⟩:=List.map_eq_singleton_iff.1 aO
  rw [Lt]
  simp only [Prod.mk.injEq,bne_iff_ne,ne_eq] at H5
  obtain ⟨aI,fw,jh⟩:=H5
  have zj:∀ cs:Array Value,(part f.type cs f.offset).run P w=.ok (.agg (cs.extract o (o+n))) w:=by
   intro cs
   unfold part
   rw [fw,jh]
   simp [Sem.run_bind,I2 lB,aA.run_sizeOf lB]
  have he:(Op.equalIn 9999 t2 (.agg x2) (.agg y2)).run P w=.ok q2 w:=(run_equalIn_agg w 9998 t2 x2 y2 uf xP).trans (FO (n:=9997) w _ ks2 q2 bH Eb)
  have UW:=zj xs
  have UX:=zj ys
  rw [ad] at UW
  rw [av] at UX
  rw [←fw] at he
  simp only [Op.eqFields]
  rw [if_pos aI]
  simp only [Sem.run_bind,UW,UX,Result.andThen_ok,he]
  cases q2<;>simp
end Go.aA
namespace Go.ab
open Go.aA
structure e_ where
 ep:Int
 up:Bool
 life:Int
 K:List cW
 B:List cW
 q:List bI
def gN (B:List cW) (k:Int):List bC:=(hj (hl B k)).1
def j8 (B:List cW) (k:Int):Int:=(hj (hl B k)).2
def mr (ks:List Int) (vs:List Value) (B:List cW):List (Int×(Value×Int)):=(ks.zip vs).map fun p=>(p.1,(p.2,j8 B p.1))
def nG (p:Value×Int):Value:=.agg #[p.1,.int .i64 p.2]
theorem agw {ks:List Int} {vs:List Value} {B:List cW} {i:Nat} {k:Int} {v:Value} (bG:vs.length=i) (hk:ks[i]?=some k) (aI:ks.Nodup):kg (mr (ks.take i) vs B) k (v,j8 B k)=mr (ks.take (i+1)) (vs++[v]) B:=by
 have al:=(List.getElem?_eq_some_iff.1 hk).1;have a':(ks.take i).length=vs.length:=by rw [List.length_take]; omega
 have e:mr (ks.take (i+1)) (vs++[v]) B=mr (ks.take i) vs B++[(k,(v,j8 B k))]:=by
  unfold mr
  rw [List.take_add_one,hk]
  rw [List.zip_append a',List.map_append]; rfl
 rw [e]
 have ho:∀ p∈mr (ks.take i) vs B,p.1≠k:=by
  intro p hp
  unfold mr at hp
  obtain ⟨x,ad,rfl⟩:=List.mem_map.1 hp
  have a7:=(List.of_mem_zip (a:=x.1) (b:=x.2) ad).1
  intro e
  obtain ⟨j,aS,he⟩:=List.mem_iff_getElem.1 a7
  rw [List.length_take] at aS
  rw [List.getElem_take] at he
  have aa:=List.getElem_of_getElem? hk
  exact (List.pairwise_iff_getElem.1 aI) j i (by omega) al (by omega) (by rw [he,e]; exact ((List.getElem?_eq_some_iff.1 hk).2).symm)
 have:∀ (m:List (Int×(Value×Int))),(∀ p∈m,p.1≠k)→kg m k (v,j8 B k)=m++[(k,(v,j8 B k))]:=by
  intro m
  induction m with
  | nil=>intro _; rfl
  | cons p m bq =>
   intro h
   unfold kg
   rw [if_neg (h p (by simp)),bq fun q dL=>h q (by simp [dL])]; rfl
 exact this _ ho
theorem Mt {ks:List Int} {vs:List Value} {B:List cW} (a':vs.length=ks.length) (s:Int) :
 (s∉ks∧fH (mr ks vs B) s=none)∨∃ (i:Nat) (v:Value),ks[i]?=some s∧vs[i]?=some v∧fH (mr ks vs B) s=some (v,j8 B s):=by
 induction ks generalizing vs with
 | nil=>exact .inl ⟨by simp,rfl⟩
 | cons k ks bq =>
  cases vs with
  | nil=>simp at a'
  | cons v vs =>
   have fC:mr (k::ks) (v::vs) B=(k,(v,j8 B k))::mr ks vs B:=rfl
   rw [fC]
   by_cases hk:k=s
   · subst hk
     exact .inr ⟨0,v,rfl,rfl,by rw [oE,if_pos rfl]⟩
   · rcases bq (vs:=vs) (by simpa using a') with ⟨h1,aa⟩|⟨i,u,h1,aa,aq⟩
     · exact .inl ⟨by simp [h1]; exact fun e=>hk e.symm,by rw [oE,if_neg hk,aa]⟩
     · exact .inr ⟨i+1,u,by simpa using h1,by simpa using aa,by rw [oE,if_neg hk,aq]⟩
structure qE where
 slot:Int
 query:Int
 shard:Int
 seq:Int
 worker:Int
 hf:Int
 items:List dk
 fin:Bool
 deriving DecidableEq
inductive gO where
 | ng (a b:Int)
 | oo (a b c:Int)
 | ask (a:bI)
 | nH (r:qE)
 | stop (a b:Int)
 deriving DecidableEq
def B6 (ks:List Int) (B:List cW) (k:Int):Bool:=decide (k∈ks) && decide (gN B k≠[])
def pX (ks:List Int) (s:e_) (a:bI):Bool:=oH a && decide (a.hf=s.ep) && decide (0 < a.hf) && B6 ks s.B a.shard
def ux (id:Int) (s:e_) (a b c:Int):Bool:=decide (a=id) && decide (b=s.life) && decide (s.ep < c)
def ko (id:Int) (ks:List Int) (s:e_) (m:gO):e_:=
 if s.up=false then s else match m with
 | .oo a b c=>if ux id s a b c=true then { s with ep:=c } else s
 | .ask a=>if pX ks s a=true then { s with q:=iY s.q a } else s
 | .stop a b=>{ s with q:=KX s.q a b }
 | _=>s
def kB (B:List cW) (k:Int):List ag:=(gy (hl B k)).1
def answer (id:Int) (s:e_) (a:bI):qE:=
 let r:=pG (gN s.B a.shard) (kB s.B a.shard) a.text a.k a.first a.after a.batch
 ⟨a.slot,a.query,a.shard,a.seq,id,s.ep,r.1,r.2⟩
def mu (id:Int) (s:e_):e_×List gO:=
 if s.up=false then (s,[]) else
 if 0 < s.ep then match s.q with
  | a::q=>({ s with q:=q },[.nH (answer id s a)])
  | []=>(s,[.ng id s.life])
 else (s,[.ng id s.life])
def rp (c:b1) (id:Int):e_:=⟨0,true,1,f_ c id,f_ c id,[]⟩
def UY (s:e_):Int:=if s.up=true then s.ep else 0
def lF (ks:List Int) (s:e_) (k:Int):List ag×Int:=
 if s.up=false then ([],10) else if k∈ks then (if j8 s.B k=0 then (kB s.B k,0) else ([],j8 s.B k)) else ([],4)
def UZ (s:e_):List bI:=if s.up=true then s.q else []
structure En (ks:List Int):Prop where
 x4:ks.Nodup
 i64:∀ k∈ks,bp k
 len:ks.length≤1000
structure U0 (ks:List Int) (B:List cW) (a:bI):Prop where
 ok:a.Ok
 J9:a.text.length≤1000
 agx:a.after.word.length≤1000
 sh:a.shard∈ks
 cZ:gN B a.shard≠[]
structure kT (ks:List Int) (n:Nat) (s:e_):Prop where
 life:0≤s.life∧s.life≤(n:Int)
 K:oB s.K
 ep:bp s.ep
 yw:s.q.length≤n
 q:∀ a∈s.q,U0 ks s.B a
 kw:∀ k,(kB s.K k).length≤1000
 eB:∀ k,(kB s.B k).length≤1000
theorem kT.more {ks:List Int} {n m:Nat} {s:e_} (h:kT ks n s) (hm:n≤m):kT ks m s:=⟨⟨h.life.1,by have:=h.life.2; omega⟩,h.K,h.ep,by have:=h.yw; omega,h.q,h.kw,h.eB⟩
theorem agy {ks:List Int} {s:e_} {a:bI} (h:pX ks s a=true):oH a=true∧a.hf=s.ep∧0 < a.hf∧a.shard∈ks∧gN s.B a.shard≠[]:=by
 unfold pX B6 at h;simp only [Bool.and_eq_true,decide_eq_true_eq] at h;exact ⟨h.1.1.1,h.1.1.2,h.1.2,h.2.1,h.2.2⟩
theorem agz {q:List bI} {a x:bI} (h:x∈iY q a):x∈q∨x=a:=by
 unfold iY at h;split at h
 · split at h
   · obtain ⟨y,av,e⟩:=List.mem_map.1 h;split at e
     · exact .inr e.symm
     · exact .inl (e▸av)
   · rcases List.mem_append.1 h with h|h
     · exact .inl h
     · exact .inr (List.mem_singleton.1 h)
 · exact .inl h
theorem agA (q:List bI) (a:bI):(iY q a).length≤q.length+1:=by
 unfold iY;split
 · split
   · rw [List.length_map]; omega
   · rw [List.length_append]; simp
 · omega
theorem kT.Mu {ks:List Int} {n:Nat} {s:e_} {K:List cW} (h:kT ks n s) (eC:oB K) (hw:∀ k,(kB K k).length≤1000):kT ks n { s with K:=K }:=⟨h.life,eC,h.ep,h.yw,h.q,hw,h.eB⟩
def gO.Ok:gO→Prop
 | .ng a b=>bp a∧bp b
 | .oo a b c=>bp a∧bp b∧bp c
 | .ask a=>a.Ok∧a.text.length≤1000∧a.after.word.length≤1000
 | .nH _=>True
 | .stop a b=>bp a∧bp b
theorem kT.take {ks:List Int} {n:Nat} {s:e_} {id:Int} {m:gO} (h:kT ks n s) (hm:m.Ok):kT ks (n+1) (ko id ks s m):=by
 have gx:=h.more (Nat.le_succ n);unfold ko;split
 · exact gx
 · cases m with
   | ng a b=>exact gx
   | nH r=>exact gx
   | oo a b c =>
    dsimp only
    split
    · exact ⟨gx.life,h.K,hm.2.2,gx.yw,h.q,h.kw,h.eB⟩
    · exact gx
   | ask a =>
    dsimp only
    split
    · rename_i aQ
      obtain ⟨_,_,_,a6,bT⟩:=agy aQ
      refine ⟨gx.life,h.K,h.ep,?_,fun x ad=>?_,h.kw,h.eB⟩
      · have:=agA s.q a; have:=h.yw; show (iY s.q a).length≤n+1; omega
      · rcases agz ad with ad|rfl
        · exact h.q x ad
        · exact ⟨hm.1,hm.2.1,hm.2.2,a6,bT⟩
    · exact gx
   | stop a b =>
    refine ⟨gx.life,h.K,h.ep,?_,fun x ad=>h.q x ((List.mem_filter.1 ad).1),h.kw,h.eB⟩
    have:(KX s.q a b).length≤s.q.length:=List.length_filter_le ..
    have:=h.yw; show (KX s.q a b).length≤n+1; omega
theorem agB {B:List cW} {k:Int}:gN B k≠[]↔j8 B k=0:=by
 constructor
 · intro h;exact (Bj _).1.trans (Sj h)
 · intro h;obtain ⟨N,_,aa,aq⟩:=RS h;exact fun e=>aa (aq.symm.trans e)
theorem U1 {B:List cW} {k:Int} (h:gN B k≠[]):sC (gN B k) (nv (kB B k)) (kB B k):=by
 obtain ⟨h1,aa⟩:=abY h;have e:gN B k=gI (kB B k):=aa;rw [e];exact A8 h1
theorem agC {ks:List Int} {B:List cW} {k:Int} (h1:k∈ks) (aa:gN B k≠[]):B6 ks B k=true:=by unfold B6; rw [decide_eq_true h1,decide_eq_true aa]; rfl
theorem agD {ks:List Int} {B:List cW} {k:Int} (h:k∉ks∨gN B k=[]):B6 ks B k=false:=by
 unfold B6;rcases h with h|h
 · rw [decide_eq_false h]; rfl
 · rw [h]; simp
theorem agE (B:List cW) (k:Int):0≤j8 B k∧j8 B k≤10:=by
 have:0≤(hj (hl B k)).2∧(hj (hl B k)).2≤9:=by
  cases h:lQ (hl B k) with
  | false=>rw [Ks h]; decide
  | true =>
   rcases R1 h with h|h
   · omega
   · rw [h]; decide
 unfold j8;omega
theorem agF {ks:List Int} {ep life:Int} {K B:List cW} {q:List bI} {k:Int}:lF ks ⟨ep,false,life,K,B,q⟩ k=([],10):=rfl
theorem agG {ks:List Int} {ep life:Int} {K B:List cW} {q:List bI} {k:Int} (h:k∉ks):lF ks ⟨ep,true,life,K,B,q⟩ k=([],4):=by unfold lF; simp [h]
theorem agH {ks:List Int} {ep life:Int} {K B:List cW} {q:List bI} {k:Int} (h:k∈ks) (he:j8 B k≠0):lF ks ⟨ep,true,life,K,B,q⟩ k=([],j8 B k):=by unfold lF; simp [h,he]
theorem U2 {ks:List Int} {ep life:Int} {K B:List cW} {q:List bI} {k:Int} (h:k∈ks) (he:j8 B k=0):lF ks ⟨ep,true,life,K,B,q⟩ k=(kB B k,0):=by unfold lF; simp [h,he]
theorem H6 (ks:List Int) (s:e_) (k:Int):0≤(lF ks s k).2∧(lF ks s k).2≤10:=by
 unfold lF;split
 · exact ⟨by decide,by decide⟩
 · split
   · split
     · exact ⟨Int.le_refl 0,(by decide:(0:Int)≤10)⟩
     · exact agE _ _
   · exact ⟨by decide,by decide⟩
theorem B7 {c:b1} {w k:Int} (h:k∈bY c w):bp k:=by
 have h1:=Bm h;have aa:=qQ c;unfold bp; omega
theorem agI {ks:List Int} {s:e_} {a:bI} (h:oH a=false):pX ks s a=false:=by unfold pX; rw [h]; rfl
theorem agJ {ks:List Int} {s:e_} {a:bI} (h:a.hf≠s.ep):pX ks s a=false:=by unfold pX; rw [decide_eq_false h]; simp
theorem agK {ks:List Int} {s:e_} {a:bI} (h:¬ a.hf > 0):pX ks s a=false:=by unfold pX; rw [decide_eq_false (p:=0 < a.hf) h]; simp
theorem U3 {ks:List Int} {s:e_} {a:bI} (h:a.shard∉ks∨gN s.B a.shard=[]):pX ks s a=false:=by unfold pX; rw [agD h]; simp
theorem U4 {ks:List Int} {s:e_} {a:bI} (h1:oH a=true) (aa:a.hf=s.ep) (aq:a.hf > 0) (a6:a.shard∈ks) (bT:gN s.B a.shard≠[]):pX ks s a=true:=by
 unfold pX; rw [h1,decide_eq_true aa,decide_eq_true (p:=0 < a.hf) aq,agC a6 bT]; rfl
theorem agL {id:Int} {s:e_} {a b c:Int} (h:a≠id):ux id s a b c=false:=by unfold ux; rw [decide_eq_false h]; simp
theorem agM {id:Int} {s:e_} {a b c:Int} (h:b≠s.life):ux id s a b c=false:=by unfold ux; rw [decide_eq_false h]; simp
theorem agN {id:Int} {s:e_} {a b c:Int} (h:¬ c > s.ep):ux id s a b c=false:=by unfold ux; rw [decide_eq_false (p:=s.ep < c) h]; simp
theorem Mv {id:Int} {s:e_} {a b c:Int} (h1:a=id) (aa:b=s.life) (aq:c > s.ep):ux id s a b c=true:=by
 unfold ux; rw [decide_eq_true h1,decide_eq_true aa,decide_eq_true (p:=s.ep < c) aq]; rfl
section
variable {id:Int} {ks:List Int} {ep life:Int} {K B:List cW} {q:List bI}
theorem U5 {m:gO}:ko id ks ⟨ep,false,life,K,B,q⟩ m=⟨ep,false,life,K,B,q⟩:=rfl
theorem Af {a:bI} (h:pX ks ⟨ep,true,life,K,B,q⟩ a=false):ko id ks ⟨ep,true,life,K,B,q⟩ (.ask a)=⟨ep,true,life,K,B,q⟩:=by unfold ko; simp [h]
theorem H7 {a:bI} (h:pX ks ⟨ep,true,life,K,B,q⟩ a=true):ko id ks ⟨ep,true,life,K,B,q⟩ (.ask a)=⟨ep,true,life,K,B,iY q a⟩:=by unfold ko; simp [h]
theorem Mw {a b c:Int} (h:ux id ⟨ep,true,life,K,B,q⟩ a b c=false):ko id ks ⟨ep,true,life,K,B,q⟩ (.oo a b c)=⟨ep,true,life,K,B,q⟩:=by unfold ko; simp [h]
theorem Mx {a b c:Int} (h:ux id ⟨ep,true,life,K,B,q⟩ a b c=true):ko id ks ⟨ep,true,life,K,B,q⟩ (.oo a b c)=⟨c,true,life,K,B,q⟩:=by unfold ko; simp [h]
theorem agO:mu id ⟨ep,false,life,K,B,q⟩=(⟨ep,false,life,K,B,q⟩,[]):=rfl
theorem Eo (h:¬ ep > 0):mu id ⟨ep,true,life,K,B,q⟩=(⟨ep,true,life,K,B,q⟩,[.ng id life]):=by
 unfold mu; simp only [Bool.true_eq_false,if_false]; rw [if_neg (show ¬ 0 < ep from h)]
theorem H8 (h:ep > 0):mu id ⟨ep,true,life,K,B,[]⟩=(⟨ep,true,life,K,B,[]⟩,[.ng id life]):=by
 unfold mu; simp only [Bool.true_eq_false,if_false]; rw [if_pos (show 0 < ep from h)]
theorem H9 {a:bI} (h:ep > 0):mu id ⟨ep,true,life,K,B,a::q⟩=(⟨ep,true,life,K,B,q⟩,[.nH (answer id ⟨ep,true,life,K,B,a::q⟩ a)]):=by
 unfold mu; simp only [Bool.true_eq_false,if_false]; rw [if_pos (show 0 < ep from h)]
end
structure vE where
 a:Int
 b:Int
 deriving DecidableEq
structure Ep where
 a:Int
 b:Int
 c:Int
 deriving DecidableEq
theorem agP {r t:qE} {b:Bool} (a8:r.slot=t.slot) (h1:r.query=t.query) (aa:r.shard=t.shard) (aq:r.seq=t.seq) (a6:r.worker=t.worker) (bT:r.hf=t.hf) (ed:r.fin=t.fin) (U:b=decide (r.items=t.items)):b=decide (r=t):=by
 rw [U];obtain ⟨a0,hi,a2,a3,a4,a5,B8,B9⟩:=r;obtain ⟨eV,c1,c2,kZ,My,Ag,Ah,agQ⟩:=t;simp only at a8 h1 aa aq a6 bT ed;subst a8; subst h1; subst aa; subst aq; subst a6; subst bT; subst ed;exact decide_eq_decide.2 (by simp)
theorem agR {a b c d:Int} {p:Bool} (h:p=decide (vE.mk a b=vE.mk c d)):p=decide (gO.ng a b=gO.ng c d):=by rw [h]; exact decide_eq_decide.2 (by simp)
theorem agS {a b c d:Int} {p:Bool} (h:p=decide (vE.mk a b=vE.mk c d)):p=decide (gO.stop a b=gO.stop c d):=by rw [h]; exact decide_eq_decide.2 (by simp)
theorem agT {a b c d e f:Int} {p:Bool} (h:p=decide (Ep.mk a b c=Ep.mk d e f)):p=decide (gO.oo a b c=gO.oo d e f):=by rw [h]; exact decide_eq_decide.2 (by simp)
theorem agU {a b:bI} {p:Bool} (h:p=decide (a=b)):p=decide (gO.ask a=gO.ask b):=by rw [h]; exact decide_eq_decide.2 (by simp)
theorem agV {a b:qE} {p:Bool} (h:p=decide (a=b)):p=decide (gO.nH a=gO.nH b):=by rw [h]; exact decide_eq_decide.2 (by simp)
end Go.ab
namespace Go.aA
open Go Go.ab
def nh {R:Nat→Prop} (vs:List Value) (rq:List (List bC)):dc R:=⟨fun F w=>cx (fun v n=>(vf (R:=R) v n).p F w) vs rq,fun h hm bO e3=>cx.imp (fun _ _ k=>(vf _ _).keep k hm bO e3) h⟩
def hP {R:Nat→Prop} (ku oP h3 eI u8 lu oG:TypeId) (eB:Nat) (id:Int) (ks:List Int) (s:e_):dc R:=nt fun x:Value×Nat×Nat×List Value×Nat =>
 bA [az eB [.int .i64 id,.int .i64 s.ep,.bool s.up,x.1,ptr x.2.1 0,.map (some x.2.2.1),ptr x.2.2.2.2 0] oP,bb encI ku 1 x.1 ks,hT h3 eI u8 x.2.1 s.life s.K,mR fo nG x.2.2.1 (mr ks x.2.2.2.1 s.B),nh x.2.2.2.1 (ks.map (gN s.B)),lV lu oG x.2.2.2.2 s.q]
theorem gp.Mz {gt:TypeId} {w:World} {cn al:Nat} {v:Value} {N:List bC} (h:gp gt w cn al v N):∃ a,v=.pointer a∧(a=none↔N=[]):=by
 rcases h with ⟨h1,aa⟩|⟨b,fJ,aT,h1,aa,_⟩
 · exact ⟨none,h1,by simp [aa]⟩
 · exact ⟨some ⟨b,0,none⟩,h1,by simp [aa]⟩
theorem ar.oQ {R bB:Nat→Prop} {w0 w:World} {L:List (dc R)} {ku oP h3 eI u8 lu oG:TypeId} {eB cm pH fS:Nat} {id:Int} {ks:List Int} {s:e_} {l3:Value} {vs:List Value} (h:ar R bB w0 w L) (i:Nat)
 (al:L[i]?=some (bA [az eB [.int .i64 id,.int .i64 s.ep,.bool s.up,l3,ptr cm 0,.map (some pH),ptr fS 0] oP,bb encI ku 1 l3 ks,hT h3 eI u8 cm s.life s.K,mR fo nG pH (mr ks vs s.B),nh vs (ks.map (gN s.B)),lV lu oG fS s.q])):ar R bB w0 w (L.set i (hP ku oP h3 eI u8 lu oG eB id ks s)):=
 h.imp al fun F x=>⟨(l3,cm,pH,vs,fS),x⟩
theorem agW {R:Nat→Prop} {vs:List Value} {rq:List (List bC)} {v:Value} {n:List bC} {F:Nat→Prop} {w:World} (h:(bA [nh (R:=R) vs rq,vf v n]).p F w):(nh (R:=R) (vs++[v]) (rq++[n])).p F w:=by
 obtain ⟨fe,h1,aa,aq⟩:=h;have a:=h1 0 _ rfl;obtain ⟨cn,al,ea,q2,fb⟩:=h1 1 _ rfl;have f0:∀ b,fe 0 b→F b:=fun b U=>(aa 0 b U).1.1
 have f1:∀ b,fe 1 b→F b:=fun b U=>(aa 1 b U).1.1
 have jQ:cx (fun v n=>(vf (R:=R) v n).p F w) vs rq:=cx.imp (fun _ _ ⟨cn,al,bw,cB,d_⟩=>⟨cn,al,bw,cB,fun b ea q2=>f0 b (d_ b ea q2)⟩) a;exact cx.snoc jQ ⟨cn,al,ea,q2,fun b bw cB=>f1 b (fb b bw cB)⟩
theorem ar.MA {R bB:Nat→Prop} {w0 w:World} {L:List (dc R)} {i k:Nat} {vs:List Value} {rq:List (List bC)} {v:Value} {n:List bC} (h:ar R bB w0 w L) (al:L[i]?=some (nh vs rq)) (bG:vs[k]?=some v) (aI:rq[k]?=some n):∃ cn up,gp 0 w cn up v n∧up≤w.heap.size:=by
 obtain ⟨F,h1,_⟩:=h.get al;obtain ⟨cn,up,aa,aq,_⟩:=(cx.get h1).2 k v n bG aI;exact ⟨cn,up,aa,aq⟩
theorem agX {R:Nat→Prop} {ku oP h3 eI u8 lu oG:TypeId} {eB:Nat} {id:Int} {ks:List Int} {s:e_} {F:Nat→Prop} {w:World} (h:(hP (R:=R) ku oP h3 eI u8 lu oG eB id ks s).p F w) :
 ∃ (l3:Value) (cm pH:Nat) (vs:List Value) (fS:Nat),ez w eB [.int .i64 id,.int .i64 s.ep,.bool s.up,l3,ptr cm 0,.map (some pH),ptr fS 0] oP∧(∃ gb,(hT (R:=R) h3 eI u8 cm s.life s.K).p gb w∧∀ b,gb b→F b)∧jV fo nG w pH (mr ks vs s.B)∧(∃ gb,(nh (R:=R) vs (ks.map (gN s.B))).p gb w∧∀ b,gb b→F b)∧∃ gb,(lV (R:=R) lu oG fS s.q).p gb w∧∀ b,gb b→F b:=by
 obtain ⟨⟨l3,cm,pH,vs,fS⟩,fe,h1,aa,_⟩:=h;exact ⟨l3,cm,pH,vs,fS,(h1 0 _ rfl).1,⟨_,h1 2 _ rfl,fun b U=>(aa 2 b U).1.1⟩,(h1 3 _ rfl).1,⟨_,h1 4 _ rfl,fun b U=>(aa 4 b U).1.1⟩,⟨_,h1 5 _ rfl,fun b U=>(aa 5 b U).1.1⟩⟩
theorem MB {R:Nat→Prop} {vs:List Value} {rq:List (List bC)} {F:Nat→Prop} {w:World} (h:(nh (R:=R) vs rq).p F w):vs.length=rq.length:=(cx.get h).1
theorem U6 {R:Nat→Prop} {vs:List Value} {rq:List (List bC)} {F:Nat→Prop} {w:World} (h:(nh (R:=R) vs rq).p F w) {k:Nat} {v:Value} {n:List bC} (bG:vs[k]?=some v) (aI:rq[k]?=some n):∃ cn up,gp 0 w cn up v n∧up≤w.heap.size:=by
 obtain ⟨cn,up,aa,aq,_⟩:=(cx.get h).2 k v n bG aI;exact ⟨cn,up,aa,aq⟩
def pY (jB ja jC jD jE:TypeId):gO→TypeId
 | .ng _ _=>jB
 | .oo _ _ _=>ja
 | .ask _=>jC
 | .nH _=>jD
 | .stop _ _=>jE
def agY (vi:Value):gO→Value
 | .ng a b=>.agg #[.int .i64 a,.int .i64 b]
 | .oo a b c=>.agg #[.int .i64 a,.int .i64 b,.int .i64 c]
 | .ask a=>.agg #[.int .i64 a.slot,.int .i64 a.query,.int .i64 a.shard,.int .i64 a.seq,.int .i64 a.hf,aH a.text,.int .i64 a.k,.int .i64 a.batch,.bool a.first,.int .i64 a.after.cd,aH a.after.word]
 | .nH r=>.agg #[.int .i64 r.slot,.int .i64 r.query,.int .i64 r.shard,.int .i64 r.seq,.int .i64 r.worker,.int .i64 r.hf,vi,.bool r.fin]
 | .stop a b=>.agg #[.int .i64 a,.int .i64 b]
def pZ (jB ja jC jD jE:TypeId) (vi:Value) (m:gO):Value:=.iface (pY jB ja jC jD jE m) (agY vi m)
def lf:gO→List dk
 | .nH r=>r.items
 | _=>[]
def sl (x:Int×Value):List Value:=[.int .i64 x.1,x.2]
theorem w4 (x:Int×Value):(sl x).length=2:=rfl
def uy {R:Nat→Prop} (jB ja jC jD jE uz qY:TypeId) (v:Value) (ms:List gO):dc R:=nt fun s9:List Value=>bA [bb sl uz 2 v ((s9.zip ms).map fun x=>((0:Int),pZ jB ja jC jD jE x.1 x.2)),wg (s9.length=ms.length) (bA ((s9.zip ms).map fun x=>bb hK qY 2 x.1 (lf x.2)))]
theorem agZ {R:Nat→Prop} {jB ja jC jD jE uz qY:TypeId} {w:World}:(uy (R:=R) jB ja jC jD jE uz qY (.slice none 0 0) []).p (fun _=>False) w:=
 ⟨[],fun _ _=>False,fun i r al=>by
  match i,al with
  | 0,al=>cases al; exact ⟨0,Acc.nil,fun b U=>by omega⟩
  | 1,al=>cases al; exact ⟨rfl,fun _ _=>False,⟨fun i r al=>by simp at al,⟨fun _ _ h=>False.elim h,fun _ _ _ _ h _=>False.elim h⟩⟩⟩,fun _ _ h=>h.elim,fun _ _ _ _ h _=>h.elim⟩
theorem MC {R:Nat→Prop} {jB ja jC jD jE uz qY:TypeId} {F:Nat→Prop} {w:World} {v vi:Value} {m:gO} (h:(bA [bb (R:=R) sl uz 2 v [((0:Int),pZ jB ja jC jD jE vi m)],bA [bb hK qY 2 vi (lf m)]]).p F w):(uy (R:=R) jB ja jC jD jE uz qY v [m]).p F w:=by
 obtain ⟨fe,h1,aa,aq⟩:=h;refine ⟨[vi],fe,fun i r al=>?_,aa,aq⟩
 match i,al with
 | 0,al=>cases al; exact h1 0 _ rfl
 | 1,al=>cases al; exact ⟨rfl,h1 1 _ rfl⟩
section
variable {jB ja jC jD jE:TypeId} {m:gO}
theorem ag0 (hd:[jB,ja,jC,jD,jE].Nodup) (h:pY jB ja jC jD jE m=jB):∃ a b,m=.ng a b:=by
 cases m<;>simp_all [pY]
theorem ag1 (hd:[jB,ja,jC,jD,jE].Nodup) (h:pY jB ja jC jD jE m=ja):∃ a b c,m=.oo a b c:=by
 cases m<;>simp_all [pY]
theorem ag2 (hd:[jB,ja,jC,jD,jE].Nodup) (h:pY jB ja jC jD jE m=jC):∃ a,m=.ask a:=by
 cases m<;>simp_all [pY]
theorem ag3 (hd:[jB,ja,jC,jD,jE].Nodup) (h:pY jB ja jC jD jE m=jD):∃ a,m=.nH a:=by
 cases m<;>simp_all [pY]
theorem ag4 (hd:[jB,ja,jC,jD,jE].Nodup) (h:pY jB ja jC jD jE m=jE):∃ a b,m=.stop a b:=by
 cases m<;>simp_all [pY]
end
def H_ (jB ja jC jD jE:TypeId) (w:World) (x:Int×Value) (m:Int×gO):Prop:=x.1=m.1∧∃ vi,x.2=pZ jB ja jC jD jE vi m.2∧ak hK w (aR 0 w.heap.size) vi (lf m.2)
def vF (ms:List gO):List (Int×gO):=ms.map fun m=>((0:Int),m)
theorem U7 {α β:Type} {R:α→β→Prop} {l:List α} {m:List β} (h:cx R l m) {i:Nat} {a:α} (ao:l[i]?=some a):∃ b,m[i]?=some b∧R a b:=by
 obtain ⟨h1,aa⟩:=cx.get h;obtain ⟨al,_⟩:=List.getElem?_eq_some_iff.1 ao;have U:m[i]?=some m[i]:=List.getElem?_eq_getElem (by omega);exact ⟨_,U,aa i a _ ao U⟩
theorem B_ {R:Nat→Prop} {jB ja jC jD jE uz qY:TypeId} {F:Nat→Prop} {w:World} {v:Value} {ms:List gO} (h:(uy (R:=R) jB ja jC jD jE uz qY v ms).p F w) :
 ∃ xs,ak sl w (aR 0 w.heap.size) v xs∧cx (H_ jB ja jC jD jE w) xs (vF ms):=by
 obtain ⟨s9,fe,h1,aa,_⟩:=h;obtain ⟨g,ao,_⟩:=h1 0 _ rfl;obtain ⟨a',alb,bw,cB,_⟩:=h1 1 _ rfl;refine ⟨_,ao.bl.b0 (Nat.zero_le _) ao.lt,?_⟩
 have key:∀ (s9:List Value) (ms:List gO),s9.length=ms.length→(∀ (i:Nat) (x:Value×gO),(s9.zip ms)[i]?=some x→∃ g,Acc hK qY 2 w g x.1 (lf x.2)) →
  cx (H_ jB ja jC jD jE w) ((s9.zip ms).map fun x=>((0:Int),pZ jB ja jC jD jE x.1 x.2)) (vF ms):=by
  intro s9
  induction s9 with
  | nil=>intro ms a' _; cases ms with
   | nil=>exact .nil
   | cons _ _=>simp at a'
  | cons vi s9 bq =>
   intro ms a' hk
   cases ms with
   | nil=>simp at a'
   | cons m ms =>
    obtain ⟨g,aO⟩:=hk 0 (vi,m) rfl
    exact .cons ⟨rfl,vi,rfl,aO.bl.b0 (Nat.zero_le _) aO.lt⟩ (bq ms (by simpa using a') fun i x ad=>hk (i+1) x ad)
 refine key s9 ms a' fun i x ad=>?_
 obtain ⟨g,h,_⟩:=bw i _ (by rw [List.getElem?_map,ad]; rfl);exact ⟨g,h⟩
theorem s_ {R:Nat→Prop} {ku oP h3 eI u8 lu oG:TypeId} {eB:Nat} {id:Int} {ks:List Int} {s t:e_} {F:Nat→Prop} {w:World} (h:s=t) (x:(hP (R:=R) ku oP h3 eI u8 lu oG eB id ks s).p F w):(hP (R:=R) ku oP h3 eI u8 lu oG eB id ks t).p F w:=h▸x
theorem U8 {R:Nat→Prop} {ku oP h3 eI u8 lu oG jB ja jC jD jE uz qY:TypeId} {eB:Nat} {id:Int} {ks:List Int} {v:Value} {p:e_×List gO} {t:e_} {ms:List gO} {F:Nat→Prop} {w:World} (h:p=(t,ms)) (x:(bA [hP (R:=R) ku oP h3 eI u8 lu oG eB id ks p.1,uy jB ja jC jD jE uz qY v p.2]).p F w):(bA [hP (R:=R) ku oP h3 eI u8 lu oG eB id ks t,uy jB ja jC jD jE uz qY v ms]).p F w:=by
 subst h; exact x
end Go.aA
namespace Go.ab
open Go.aA
structure kp (c:b1) (w:Int) (K:List cW):Prop where
 ok:oB K
 no:∀ k,k∉bY c w→iX K k=none
 yes:∀ k,k∈bY c w→∃ b,iX K k=some (k,fP c k,b)∧(b=fP c k∨∃ a x,b=qf (fP c k) a x)
theorem kp.new {c:b1} (h:may c=true) (w:Int):kp c w (f_ c w):=⟨GB h w,fun k hk=>abF hk,fun k hk=>⟨_,R9 hk,.inl rfl⟩⟩
theorem kp.put {c:b1} {w:Int} {K:List cW} (h:kp c w K) (s:Int) {f:List UInt8→List UInt8} (bd:∀ b,(f b).length=b.length) (aO:∀ b,f b=b∨∃ a x,f b=qf b a x):kp c w (oA K s f):=by
 refine ⟨h.ok.put s bd,fun k hk=>?_,fun k hk=>?_⟩
 · rw [R6,h.no k hk]; rfl
 · obtain ⟨b,h1,aa⟩:=h.yes k hk;rw [R6,h1,Option.map_some];by_cases aF:k=s
   · exact ⟨_,congrArg some (if_pos aF),aO _⟩
   · exact ⟨b,congrArg some (if_neg aF),aa⟩
theorem kp.zB {c:b1} {w:Int} {K:List cW} (h:kp c w K) (s a x:Int):kp c w (Dd K s a x):=h.put s (fun b=>aa7 b a x) fun b=>.inr ⟨a,x,rfl⟩
theorem kp.read {c:b1} {w:Int} {K:List cW} (h:kp c w K) (k:Int):(k∉bY c w∧hl K k=[])∨(k∈bY c w∧hl K k=fP c k)∨(k∈bY c w∧∃ a x,hl K k=qf (fP c k) a x):=by
 by_cases hk:k∈bY c w
 · obtain ⟨b,h1,aa⟩:=h.yes k hk;have aq:=(R_ h1).2.1;rcases aa with rfl|⟨a,x,rfl⟩
   · exact .inr (.inl ⟨hk,aq⟩)
   · exact .inr (.inr ⟨hk,a,x,aq⟩)
 · exact .inl ⟨hk,(abG (h.no k hk)).2.1⟩
theorem U9 {c:b1} (hm:may c=true) {w k:Int} (hk:k∈bY c w):fP c k=kc (rN c k)∧eD (rN c k)=0:=⟨(R4 hm (Bm hk).1 (Bm hk).2).1,Kt hm k⟩
theorem MD {c:b1} (hm:may c=true) {w k:Int} (hk:k∈bY c w) {K:List cW} (h:hl K k=fP c k):gN K k=gI (rN c k)∧j8 K k=0∧kB K k=rN c k:=by
 obtain ⟨h1,aa⟩:=U9 hm hk;unfold gN j8 kB;rw [h,h1,Kj aa,R2 aa];exact ⟨rfl,rfl,rfl⟩
theorem ag5 {b:List UInt8} (h:(hj b).2≠0):(gy b).1=[]:=by
 rcases R0 b with ⟨h1,_⟩|⟨h1,_⟩|⟨_,h1,_⟩
 · rw [h1]
 · rw [h1]
 · exact absurd ((Bj b).1.trans h1) h
theorem ag6 {c:b1} (hm:may c=true) {w k:Int} (hk:k∈bY c w) {K:List cW} {a x:Int} (h:hl K k=qf (fP c k) a x):gN K k=[]∧j8 K k=9∧kB K k=[]:=by
 obtain ⟨h1,aa⟩:=U9 hm hk;have hd:=aa9 aa a x;unfold gN j8 kB;rw [h,h1,hd];exact ⟨rfl,rfl,ag5 (by rw [hd]; decide)⟩
theorem ag7 {K:List cW} {k:Int} (h:hl K k=[]):gN K k=[]∧j8 K k≠0∧kB K k=[]:=by
 unfold gN j8 kB;rw [h];exact ⟨by decide +kernel,by decide +kernel,by decide +kernel⟩
theorem kp.wl {c:b1} {w:Int} {K:List cW} (hm:may c=true) (h:kp c w K) (a':c.words.length≤1000) (k:Int):(kB K k).length≤1000:=by
 rcases h.read k with ⟨_,h1⟩|⟨a8,h1⟩|⟨a8,a,x,h1⟩
 · rw [(ag7 h1).2.2]; exact Nat.zero_le _
 · rw [(MD hm a8 h1).2.2]; exact Nat.le_trans (abp k) a'
 · rw [(ag6 hm a8 h1).2.2]; exact Nat.zero_le _
theorem nI (c:b1) (w:Int):En (bY c w):=⟨GA c w,fun k hk=>B7 hk,Nat.le_trans (vh c w) (by decide)⟩
theorem U_ {c:b1} (hm:may c=true) (w:Int) (a':c.words.length≤1000):kT (bY c w) 1 (rp c w):=
 ⟨⟨(by decide:(0:Int)≤1),Int.le_refl _⟩,GB hm w,(by show bp 0; unfold bp; decide),Nat.zero_le _,(fun a ao=>nomatch ao),(kp.new hm w).wl hm a',(kp.new hm w).wl hm a'⟩
def B':bI:=⟨0,0,0,0,1,[97],1,2,true,⟨0,[]⟩⟩
def ME:List ag:=[[97],[98]]
def H':qE:=⟨0,0,0,0,1,1,[⟨0,[97]⟩,⟨1,[98]⟩],true⟩
def Er:e_:=rp lR 1
def Ai:e_:={ Er with ep:=1 }
def Es:e_:={ Ai with q:=[B'] }
theorem MF:(0:Int)∈bY lR 1:=by rw [abH]; simp
theorem U':may lR=true:=(Kw Sa).1
theorem MG:gN (f_ lR 1) 0=gI ME∧kB (f_ lR 1) 0=ME:=by
 obtain ⟨h1,_,aq⟩:=MD (K:=f_ lR 1) U' MF (R' MF).2.1;have e:rN lR 0=ME:=(by decide +kernel);rw [e] at h1 aq;exact ⟨h1,aq⟩
theorem ag8:mu 1 Er=(Er,[.ng 1 1]):=Eo (by decide)
theorem Va:ko 1 (bY lR 1) Er (.oo 1 1 1)=Ai:=Mx (Mv rfl rfl (by decide))
theorem Vb:ko 1 (bY lR 1) Ai (.ask B')=Es:=
 H7 (U4 (by decide +kernel) rfl (by decide) MF (by show gN (f_ lR 1) 0≠[]; rw [MG.1]; decide +kernel))
theorem ag9:mu 1 Es=(Ai,[.nH H']):=by
 refine (H9 (by decide)).trans ?_
 have h:answer 1 Es B'=H':=by
  unfold answer
  show (let r:=pG (gN (f_ lR 1) 0) (kB (f_ lR 1) 0) [97] 1 true ⟨0,[]⟩ 2; (⟨0,0,0,0,1,1,r.1,r.2⟩:qE))=H'
  rw [MG.1,MG.2]
  decide +kernel
 exact congrArg (fun r=>(Ai,[gO.nH r])) h
theorem MH:kT (bY lR 1) 1 Er:=U_ U' 1 (by decide)
theorem Vc:B'.Ok:=⟨by unfold bp; decide,by unfold bp; decide,by unfold bp; decide,by unfold bp; decide,by unfold bp; decide,by unfold bp; decide,by unfold bp; decide,by unfold bp; decide⟩
theorem Vd:kT (bY lR 1) 2 Ai:=Va▸MH.take (id:=1) (m:=.oo 1 1 1) ⟨by unfold bp; decide,by unfold bp; decide,by unfold bp; decide⟩
theorem ag_:kT (bY lR 1) 3 Es:=Vb▸Vd.take (id:=1) (m:=.ask B') ⟨Vc,by decide,by decide⟩
structure ag' where
 aha:Int
 i:Int
 j:Int
 x:Int
 a:bI
def ahb (x:ag'):List Value:=[.int .i64 x.aha,.int .i64 x.i,.int .i64 x.j,.int .i64 x.x,.int .i64 x.a.slot,.int .i64 x.a.query,.int .i64 x.a.shard,.int .i64 x.a.seq,.int .i64 x.a.hf,aH x.a.text,.int .i64 x.a.k,.int .i64 x.a.batch,.bool x.a.first,.int .i64 x.a.after.cd,aH x.a.after.word]
theorem ahc (id:Int) (ks:List Int) (s:e_) (m:gO):(ko id ks s m).up=s.up:=by
 unfold ko;split
 · rfl
 · cases m<;>dsimp only<;>first|rfl|(split<;>rfl)
theorem ahd (id:Int) (ks:List Int) (s:e_) (m:gO):(ko id ks s m).K=s.K∧(ko id ks s m).B=s.B:=by
 unfold ko;split
 · exact ⟨rfl,rfl⟩
 · cases m<;>dsimp only<;>first|exact ⟨rfl,rfl⟩|(split<;>exact ⟨rfl,rfl⟩)
end Go.ab
namespace Go.ab
open Go.aA
def p0 (ks:List Int) (B:List cW):List (Int×List ag×Int):=ks.map fun k=>(k,kB B k,j8 B k)
def Ve (ks:List Int) (s:e_):List (Int×List ag×Int):=if s.up=true then p0 ks s.B else []
theorem ahe {ks:List Int} {B:List cW} {i:Nat} {k:Int} (hk:ks[i]?=some k):p0 (ks.take i) B++[(k,kB B k,j8 B k)]=p0 (ks.take (i+1)) B:=by
 unfold p0;rw [List.take_add_one,hk,Option.toList_some,List.map_append]; rfl
theorem ahf (B:List cW) (k:Int):(gy (hl B k)).2=j8 B k:=((Bj _).1).symm
end Go.ab
namespace Go.aA
open Go Go.ab
structure oR where
 n:Int
 w:cb
 e:Int
def rr (x:oR):List Value:=[.int .i64 x.n,x.w.val,.int .i64 x.e]
theorem ahg (x:oR):(rr x).length=3:=rfl
theorem ahh (x:oR):(rr x).all (·.oneCell')=true:=rfl
def ru {R:Nat→Prop} (rows:List oR) (S:List (Int×List ag×Int)):dc R:=⟨fun F w=>cx (fun r e=>r.n=e.1∧ak cp w F r.w.val e.2.1∧r.e=e.2.2) rows S,fun h hm bO _=>cx.imp (fun _ _ k=>⟨k.1,k.2.1.keep hm bO,k.2.2⟩) h⟩
theorem ahi {R F:Nat→Prop} {w:World} {rows:List oR} {S:List (Int×List ag×Int)} {t:TypeId} {x:cb} {v:Value} {n e:Int} {l:List ag} (bG:v=x.val) (h:(bA (R:=R) [ru rows S,bb cp t 1 v l]).p F w):(ru (R:=R) (rows++[⟨n,x,e⟩]) (S++[(n,l,e)])).p F w:=by
 obtain ⟨gb,cO,h1,aa,aq,a6⟩:=wj h;exact cx.app (cx.imp (fun _ _ k=>⟨k.1,k.2.1.mono aq,k.2.2⟩) h1) (.cons ⟨rfl,bG▸(vd aa).mono a6,rfl⟩ .nil)
def Vf {R:Nat→Prop} (lu Ca:TypeId) (fS:Nat) (q:List bI):dc R:=nt fun v:Value=>bA [az fS [v] lu,bb k5 Ca 11 v q]
def Et {R:Nat→Prop} (oP Bo eI Ia lu Ca:TypeId) (bv:Nat) (lg lh:Value) (c:b1) (id:Int) (s:e_):dc R:=nt fun x:Nat×Nat×Value×List oR =>
 bA [az bv [lg,lh,.int .i64 c.workers,.int .i64 c.db,.int .i64 c.dA,.int .i64 c.batch,.int .i64 c.dB,.int .i64 c.dC,.int .i64 c.first,.int .i64 c.cap,.int .i64 c.dD,.int .i64 c.dE,.int .i64 id,ptr x.1 0,.bool s.up,.int .i64 (UY s),x.2.2.1,ptr x.2.1 0] oP,Bn Bo eI x.1 s.life s.K,bb rr Ia 3 x.2.2.1 x.2.2.2,ru x.2.2.2 (Ve (bY c id) s),Vf lu Ca x.2.1 (UZ s)]
theorem ar.ahj {R bB:Nat→Prop} {w0 w:World} {L:List (dc R)} {oP Bo eI Ia lu Ca:TypeId} {bv cm fS:Nat} {lg lh nx:Value} {c:b1} {id:Int} {s:e_} {rows:List oR} (h:ar R bB w0 w L) (i:Nat)
 (al:L[i]?=some (bA [az bv [lg,lh,.int .i64 c.workers,.int .i64 c.db,.int .i64 c.dA,.int .i64 c.batch,.int .i64 c.dB,.int .i64 c.dC,.int .i64 c.first,.int .i64 c.cap,.int .i64 c.dD,.int .i64 c.dE,.int .i64 id,ptr cm 0,.bool s.up,.int .i64 (UY s),nx,ptr fS 0] oP,Bn Bo eI cm s.life s.K,bb rr Ia 3 nx rows,ru rows (Ve (bY c id) s),Vf lu Ca fS (UZ s)])):ar R bB w0 w (L.set i (Et oP Bo eI Ia lu Ca bv lg lh c id s)):=
 h.imp al fun F x=>⟨(cm,fS,nx,rows),x⟩
end Go.aA
namespace Go.ab
open Go.aA
structure vG (c:b1) (id:Int) (n:Nat) (s:e_):Prop where
 ok:kT (bY c id) n s
 K:kp c id s.K
 B:kp c id s.B
section
variable {c:b1} {id:Int} {n:Nat} {s:e_}
theorem vG.new (hm:may c=true) (a':c.words.length≤1000) (id:Int):vG c id 1 (rp c id):=⟨U_ hm id a',kp.new hm id,kp.new hm id⟩
theorem vG.Mu {K:List cW} (hm:may c=true) (a':c.words.length≤1000) (h:vG c id n s) (eC:kp c id K):vG c id n { s with K:=K }:=⟨h.ok.Mu eC.ok (eC.wl hm a'),eC,h.B⟩
end
end Go.ab
namespace Go.aA
open Go Go.ab
theorem ak.map {α β:Type} {enc:α→List Value} {Vg:β→List Value} {f:α→β} (bd:∀ x,Vg (f x)=enc x) {w:World} {F:Nat→Prop} {v:Value} {l:List α} (h:ak enc w F v l):ak Vg w F v (l.map f):=by
 obtain ⟨a,cap,h1,aa,aq,a6⟩:=h;refine ⟨a,cap,by rw [List.length_map]; exact h1,by rw [List.length_map]; exact aa,aq,?_⟩;rcases a6 with rfl|⟨b,off,bT,ed,jH⟩
 · exact .inl rfl
 · exact .inr ⟨b,off,bT,ed,by rw [List.flatMap_map]; simpa only [bd] using jH⟩
end Go.aA
namespace Go.ab
open Go.aA
section
variable {c:b1} {id:Int} {k:Int}
theorem Vh (id ep life:Int) (K qL B:List cW) (q:List bI):(mu id ⟨ep,true,life,K,B,q⟩).2=(mu id ⟨ep,true,life,qL,B,q⟩).2:=by
 by_cases h:ep > 0
 · cases q with
   | nil=>rw [H8 h,H8 h]
   | cons a q=>rw [H9 h,H9 h]; rfl
 · rw [Eo h,Eo h]
theorem Vi {ks:List Int} {ep life:Int} {K qL B:List cW} {q:List bI} {a:bI}:(mu id (ko id ks ⟨ep,true,life,K,B,q⟩ (.ask a))).2=(mu id (ko id ks ⟨ep,true,life,qL,B,q⟩ (.ask a))).2:=by
 cases h:pX ks ⟨ep,true,life,K,B,q⟩ a with
 | true=>rw [H7 h,H7 (K:=qL) h]; exact Vh ..
 | false=>rw [Af h,Af (K:=qL) h]; exact Vh ..
theorem Ib {K:List cW} {ep life:Int} {q:List bI} {m:gO} (hm:may c=true) (hk:k∈bY c id):lF (bY c id) (ko id (bY c id) ⟨ep,true,life,K,f_ c id,q⟩ m) k=(rN c k,0):=by
 have h1:=ahc id (bY c id) ⟨ep,true,life,K,f_ c id,q⟩ m;have aa:=(ahd id (bY c id) ⟨ep,true,life,K,f_ c id,q⟩ m).2;generalize ko id (bY c id) ⟨ep,true,life,K,f_ c id,q⟩ m=t at h1 aa;obtain ⟨ep,up,life,K,B,q⟩:=t;dsimp only at h1 aa;subst h1; subst aa;obtain ⟨_,aq,a6⟩:=MD hm hk (K:=f_ c id) (R' hk).2.1;rw [U2 hk aq,a6]
theorem Ic {ks:List Int} {K B:List cW} {q:List bI}:ko id ks ⟨0,true,1,K,B,q⟩ (.oo id 1 3)=⟨3,true,1,K,B,q⟩:=Mx (Mv rfl rfl (show (3:Int) > 0 by decide))
theorem s' {K:List cW} {ep:Int} (hm:may c=true) (a':c.words.length≤1000) (eC:kp c id K) (he:bp ep):kT (bY c id) 1 ⟨ep,true,1,K,f_ c id,[]⟩:=
 have h:=(vG.new hm a' id).Mu hm a' eC
 ⟨h.ok.life,eC.ok,he,Nat.zero_le _,(fun _ ao=>nomatch ao),h.ok.kw,h.ok.eB⟩
end
end Go.ab
namespace Go.Proofs
open Go.aA Go.ab
theorem Vj:dX Tryz.prog 20=some (false,1,16,[.nilIface]):=by kernel_rfl
theorem Vk:dX Tryz.prog 28=some (false,1,8,[.int .i64 0]):=by kernel_rfl
theorem ta:dX Tryz.prog 38=some (true,3,24,[.int .i64 0,.int .i64 0,.int .i64 0]):=by kernel_rfl
theorem w5:dX Tryz.prog 44=some (true,2,24,[.int .i64 0,.nilIface]):=by kernel_rfl
theorem yx:dX Tryz.prog 46=some (true,2,16,[.int .i64 0,.int .i64 0]):=by kernel_rfl
theorem uA:dX Tryz.prog 49=some (true,8,80,[.int .i64 0,.int .i64 0,.int .i64 0,.int .i64 0,.int .i64 0,.int .i64 0,.slice none 0 0,.bool false]):=by kernel_rfl
theorem MI:dX Tryz.prog 62=some (false,1,8,[.pointer none]):=by kernel_rfl
theorem Eu:dX Tryz.prog 92=some (false,1,8,[.map none]):=by kernel_rfl
theorem Ie:dX Tryz.prog 101=some (true,2,16,[.pointer none,.int .i64 0]):=by kernel_rfl
theorem kC:dX Tryz.prog 104=some (true,2,16,[.int .i64 0,.int .i64 0]):=by kernel_rfl
theorem Vl:dX Tryz.prog 127=some (false,1,8,[.pointer none]):=by kernel_rfl
theorem MJ:dX Tryz.prog 130=some (false,1,24,[.slice none 0 0]):=by kernel_rfl
theorem ahk:dX Tryz.prog 131=some (false,1,8,[.pointer none]):=by kernel_rfl
theorem Ev:dX Tryz.prog 147=some (false,1,24,[.slice none 0 0]):=by kernel_rfl
theorem Ig:dX Tryz.prog 194=some (true,3,56,[.int .i64 0,.slice none 0 0,.slice none 0 0]):=by kernel_rfl
theorem Vm:dX Tryz.prog 198=some (true,3,40,[.int .i64 0,.slice none 0 0,.int .i64 0]):=by kernel_rfl
theorem yy:dX Tryz.prog 249=some (false,1,24,[.slice none 0 0]):=by kernel_rfl
theorem qF:dX Tryz.prog 251=some (true,2,32,[.bool false,.slice none 0 0]):=by kernel_rfl
theorem Cb:dX Tryz.prog 252=some (true,2,16,[.int .i64 0,.int .i64 0]):=by kernel_rfl
theorem pd:dX Tryz.prog 286=some (false,1,24,[.slice none 0 0]):=by kernel_rfl
theorem tc:dX Tryz.prog 290=some (true,2,48,[.slice none 0 0,.slice none 0 0]):=by kernel_rfl
theorem ahl:dQ Tryz.prog 38 0=some 0:=by kernel_rfl
theorem ahm:dQ Tryz.prog 38 1=some 1:=by kernel_rfl
theorem Vn:dQ Tryz.prog 38 2=some 2:=by kernel_rfl
theorem Vo:dQ Tryz.prog 44 0=some 0:=by kernel_rfl
theorem Vp:dQ Tryz.prog 44 1=some 1:=by kernel_rfl
theorem Vq:dQ Tryz.prog 49 0=some 0:=by kernel_rfl
theorem Vr:dQ Tryz.prog 49 1=some 1:=by kernel_rfl
theorem Vs:dQ Tryz.prog 49 2=some 2:=by kernel_rfl
theorem Vt:dQ Tryz.prog 49 3=some 3:=by kernel_rfl
theorem Vu:dQ Tryz.prog 49 4=some 4:=by kernel_rfl
theorem Vv:dQ Tryz.prog 49 5=some 5:=by kernel_rfl
theorem MK:dQ Tryz.prog 49 6=some 6:=by kernel_rfl
theorem ML:dQ Tryz.prog 49 7=some 7:=by kernel_rfl
theorem Ih:dQ Tryz.prog 95 0=some 0:=by kernel_rfl
theorem Cc:dQ Tryz.prog 95 1=some 1:=by kernel_rfl
theorem MM:dQ Tryz.prog 95 2=some 2:=by kernel_rfl
theorem ahn:dQ Tryz.prog 95 3=some 3:=by kernel_rfl
theorem MN:dQ Tryz.prog 95 4=some 4:=by kernel_rfl
theorem Ew:dQ Tryz.prog 95 5=some 5:=by kernel_rfl
theorem MO:dQ Tryz.prog 95 6=some 6:=by kernel_rfl
theorem aho:dQ Tryz.prog 101 0=some 0:=by kernel_rfl
theorem Vw:dQ Tryz.prog 101 1=some 1:=by kernel_rfl
theorem ahp:dQ Tryz.prog 133 0=some 0:=by kernel_rfl
theorem ahq:dQ Tryz.prog 133 1=some 12:=by kernel_rfl
theorem Vx:dQ Tryz.prog 133 2=some 13:=by kernel_rfl
theorem ahr:dQ Tryz.prog 133 3=some 14:=by kernel_rfl
theorem ahs:dQ Tryz.prog 133 4=some 15:=by kernel_rfl
theorem MP:dQ Tryz.prog 133 5=some 16:=by kernel_rfl
theorem aht:dQ Tryz.prog 133 6=some 17:=by kernel_rfl
theorem Ex:dQ Tryz.prog 149 0=some 0:=by kernel_rfl
theorem Vy:dQ Tryz.prog 149 1=some 1:=by kernel_rfl
theorem ahu:dQ Tryz.prog 194 0=some 0:=by kernel_rfl
theorem ahv:dQ Tryz.prog 194 2=some 2:=by kernel_rfl
theorem ahw:dQ Tryz.prog 247 0=some 0:=by kernel_rfl
theorem MQ:dQ Tryz.prog 247 1=some 1:=by kernel_rfl
theorem Ey:dQ Tryz.prog 247 2=some 2:=by kernel_rfl
theorem ahx:dQ Tryz.prog 251 0=some 0:=by kernel_rfl
theorem yz:dQ Tryz.prog 251 1=some 1:=by kernel_rfl
theorem pe:dQ Tryz.prog 288 0=some 0:=by kernel_rfl
theorem MR:dQ Tryz.prog 290 0=some 0:=by kernel_rfl
theorem Aj:dQ Tryz.prog 290 1=some 1:=by kernel_rfl
theorem ahy:dX Tryz.prog 33=some (true,2,24,[.int .i64 0,aH []]):=by kernel_rfl
theorem ahz (a b:bI) (w:World):(Op.equalIn 10000 35 (.agg #[.int .i64 a.slot,.int .i64 a.query,.int .i64 a.shard,.int .i64 a.seq,.int .i64 a.hf,aH a.text,.int .i64 a.k,.int .i64 a.batch,.bool a.first,.int .i64 a.after.cd,aH a.after.word]) (.agg #[.int .i64 b.slot,.int .i64 b.query,.int .i64 b.shard,.int .i64 b.seq,.int .i64 b.hf,aH b.text,.int .i64 b.k,.int .i64 b.batch,.bool b.first,.int .i64 b.after.cd,aH b.after.word])).run Tryz.prog w=.ok (decide (a=b)) w:=by
 obtain ⟨a0,hi,a2,a3,a4,a5,B8,B9,Ez,⟨a9,Ii⟩⟩:=a;obtain ⟨lJ,aG,aN,bn,bj,cR,c8,hy,h5,⟨kO,j3⟩⟩:=b;refine (agv (P:=Tryz.prog) (t:=35) (t2:=33) (k:=9) (o:=9) (ks:=[(0,.int .i64),(1,.int .i64),(2,.int .i64),(3,.int .i64),(4,.int .i64),(5,.str),(6,.int .i64),(7,.int .i64),(8,.bool)]) (ks2:=[(0,.int .i64),(1,.str)]) (q:=(a0==lJ) && (hi==aG) && (a2==aN) && (a3==bn) && (a4==bj) && (a5==cR) && (B8==c8) && (B9==hy) && (Ez==h5)) (q2:=(a9==kO) && (Ii==j3)) (x2:=#[.int .i64 a9,aH Ii]) (y2:=#[.int .i64 kO,aH j3]) (by kernel_rfl) (by kernel_rfl) (by kernel_rfl) (by kernel_rfl) (by kernel_rfl) (by kernel_rfl) (by kernel_rfl) ahy ?_ rfl rfl ?_ w).trans ?_
 · skip
   by_cases a8:a0=lJ
   case neg=>(have g0:=beq_eq_false_iff_ne.2 a8); simp [k1,lP,aH,toList_mk,a8,g0]
   subst a8;by_cases h1:hi=aG
   case neg=>(have g1:=beq_eq_false_iff_ne.2 h1); simp [k1,lP,aH,toList_mk,h1,g1]
   subst h1;by_cases aa:a2=aN
   case neg=>(have g2:=beq_eq_false_iff_ne.2 aa); simp [k1,lP,aH,toList_mk,aa,g2]
   subst aa;by_cases aq:a3=bn
   case neg=>(have g3:=beq_eq_false_iff_ne.2 aq); simp [k1,lP,aH,toList_mk,aq,g3]
   subst aq;by_cases a6:a4=bj
   case neg=>(have g4:=beq_eq_false_iff_ne.2 a6); simp [k1,lP,aH,toList_mk,a6,g4]
   subst a6;by_cases bT:a5=cR
   case neg=>(have g5:=beq_eq_false_iff_ne.2 bT); simp [k1,lP,aH,toList_mk,bT,g5]
   subst bT;by_cases ed:B8=c8
   case neg=>(have g6:=beq_eq_false_iff_ne.2 ed); simp [k1,lP,aH,toList_mk,ed,g6]
   subst ed;by_cases jH:B9=hy
   case neg=>(have g7:=beq_eq_false_iff_ne.2 jH); simp [k1,lP,aH,toList_mk,jH,g7]
   subst jH;by_cases qR:Ez=h5
   case neg=>(have g8:=beq_eq_false_iff_ne.2 qR); simp [k1,lP,aH,toList_mk,qR,g8]
   subst qR;simp [k1,lP,aH,toList_mk]
 · skip
   by_cases tx:a9=kO
   case neg=>(have g9:=beq_eq_false_iff_ne.2 tx); simp [k1,lP,aH,toList_mk,tx,g9]
   subst tx;by_cases sy:Ii=j3
   case neg=>(have g10:=beq_eq_false_iff_ne.2 sy); simp [k1,lP,aH,toList_mk,sy,g10]
   subst sy;simp [k1,lP,aH,toList_mk]
 · congr 1
   by_cases a8:a0=lJ
   case neg=>(have g0:=beq_eq_false_iff_ne.2 a8); simp [a8,g0]
   subst a8;by_cases h1:hi=aG
   case neg=>(have g1:=beq_eq_false_iff_ne.2 h1); simp [h1,g1]
   subst h1;by_cases aa:a2=aN
   case neg=>(have g2:=beq_eq_false_iff_ne.2 aa); simp [aa,g2]
   subst aa;by_cases aq:a3=bn
   case neg=>(have g3:=beq_eq_false_iff_ne.2 aq); simp [aq,g3]
   subst aq;by_cases a6:a4=bj
   case neg=>(have g4:=beq_eq_false_iff_ne.2 a6); simp [a6,g4]
   subst a6;by_cases bT:a5=cR
   case neg=>(have g5:=beq_eq_false_iff_ne.2 bT); simp [bT,g5]
   subst bT;by_cases ed:B8=c8
   case neg=>(have g6:=beq_eq_false_iff_ne.2 ed); simp [ed,g6]
   subst ed;by_cases jH:B9=hy
   case neg=>(have g7:=beq_eq_false_iff_ne.2 jH); simp [jH,g7]
   subst jH;by_cases qR:Ez=h5
   case neg=>(have g8:=beq_eq_false_iff_ne.2 qR); simp [qR,g8]
   subst qR;by_cases tx:a9=kO
   case neg=>(have g9:=beq_eq_false_iff_ne.2 tx); simp [tx,g9]
   subst tx;by_cases sy:Ii=j3
   case neg=>(have g10:=beq_eq_false_iff_ne.2 sy); simp [sy,g10]
   subst sy;simp
theorem ahA (a b:Ep) (w:World):(Op.equalIn 10000 38 (.agg #[.int .i64 a.a,.int .i64 a.b,.int .i64 a.c]) (.agg #[.int .i64 b.a,.int .i64 b.b,.int .i64 b.c])).run Tryz.prog w=.ok (decide (a=b)) w:=
 AZ (ks:=[(0,.int .i64),(1,.int .i64),(2,.int .i64)]) (by kernel_rfl) (by kernel_rfl) (by kernel_rfl) (by
  obtain ⟨a0,hi,a2⟩:=a
  obtain ⟨lJ,aG,aN⟩:=b
  (by_cases a8:a0=lJ)<;>(first|(have g0:=beq_eq_false_iff_ne.2 a8)|(have g0:=beq_iff_eq.2 a8))<;>(by_cases h1:hi=aG)<;>(first|(have g1:=beq_eq_false_iff_ne.2 h1)|(have g1:=beq_iff_eq.2 h1))<;>(by_cases aa:a2=aN)<;>(first|(have g2:=beq_eq_false_iff_ne.2 aa)|(have g2:=beq_iff_eq.2 aa))<;>simp [k1,lP,aH,toList_mk,a8,h1,aa,g0,g1,g2]) w
theorem ahB (a b:vE) (w:World):(Op.equalIn 10000 46 (.agg #[.int .i64 a.a,.int .i64 a.b]) (.agg #[.int .i64 b.a,.int .i64 b.b])).run Tryz.prog w=.ok (decide (a=b)) w:=
 AZ (ks:=[(0,.int .i64),(1,.int .i64)]) (by kernel_rfl) (by kernel_rfl) (by kernel_rfl) (by
  obtain ⟨a0,hi⟩:=a
  obtain ⟨lJ,aG⟩:=b
  (by_cases a8:a0=lJ)<;>(first|(have g0:=beq_eq_false_iff_ne.2 a8)|(have g0:=beq_iff_eq.2 a8))<;>(by_cases h1:hi=aG)<;>(first|(have g1:=beq_eq_false_iff_ne.2 h1)|(have g1:=beq_iff_eq.2 h1))<;>simp [k1,lP,aH,toList_mk,a8,h1,g0,g1]) w
theorem ahC (a b:vE) (w:World):(Op.equalIn 10000 104 (.agg #[.int .i64 a.a,.int .i64 a.b]) (.agg #[.int .i64 b.a,.int .i64 b.b])).run Tryz.prog w=.ok (decide (a=b)) w:=
 AZ (ks:=[(0,.int .i64),(1,.int .i64)]) (by kernel_rfl) (by kernel_rfl) (by kernel_rfl) (by
  obtain ⟨a0,hi⟩:=a
  obtain ⟨lJ,aG⟩:=b
  (by_cases a8:a0=lJ)<;>(first|(have g0:=beq_eq_false_iff_ne.2 a8)|(have g0:=beq_iff_eq.2 a8))<;>(by_cases h1:hi=aG)<;>(first|(have g1:=beq_eq_false_iff_ne.2 h1)|(have g1:=beq_iff_eq.2 h1))<;>simp [k1,lP,aH,toList_mk,a8,h1,g0,g1]) w
theorem pf:tP (Tryz.prog.underlying 35)=true:=by kernel_rfl
theorem rv:tP (Tryz.prog.underlying 38)=true:=by kernel_rfl
theorem uB:tP (Tryz.prog.underlying 46)=true:=by kernel_rfl
theorem Cd:tP (Tryz.prog.underlying 49)=true:=by kernel_rfl
theorem sm:tP (Tryz.prog.underlying 104)=true:=by kernel_rfl
theorem Ak:bX Tryz.prog 11=true:=by kernel_rfl
theorem Vz:bX Tryz.prog 12=true:=by kernel_rfl
theorem VA:bX Tryz.prog 13=true:=by kernel_rfl
theorem vH:bX Tryz.prog 14=true:=by kernel_rfl
theorem Ce:bX Tryz.prog 16=true:=by kernel_rfl
theorem ahD:bX Tryz.prog 17=true:=by kernel_rfl
theorem MS:bX Tryz.prog 21=true:=by kernel_rfl
theorem ahE:bX Tryz.prog 22=true:=by kernel_rfl
theorem VB:bX Tryz.prog 24=true:=by kernel_rfl
theorem VC:bX Tryz.prog 26=true:=by kernel_rfl
theorem ahF:bX Tryz.prog 27=true:=by kernel_rfl
theorem Ij:bX Tryz.prog 28=true:=by kernel_rfl
theorem VD:bX Tryz.prog 29=true:=by kernel_rfl
theorem Ik:bX Tryz.prog 30=true:=by kernel_rfl
theorem MT:bX Tryz.prog 32=true:=by kernel_rfl
theorem ahG:bX Tryz.prog 34=true:=by kernel_rfl
theorem ahH:bX Tryz.prog 41=true:=by kernel_rfl
theorem ahI:bX Tryz.prog 43=true:=by kernel_rfl
theorem ahJ:bX Tryz.prog 45=true:=by kernel_rfl
theorem ahK:bX Tryz.prog 46=true:=by kernel_rfl
theorem ahL:bX Tryz.prog 47=true:=by kernel_rfl
theorem VE:bX Tryz.prog 50=true:=by kernel_rfl
theorem ahM:bX Tryz.prog 51=true:=by kernel_rfl
theorem ahN:bX Tryz.prog 52=true:=by kernel_rfl
theorem VF:bX Tryz.prog 53=true:=by kernel_rfl
theorem ahO:bX Tryz.prog 62=true:=by kernel_rfl
theorem ahP:bX Tryz.prog 63=true:=by kernel_rfl
theorem ahQ:bX Tryz.prog 64=true:=by kernel_rfl
theorem ahR:bX Tryz.prog 65=true:=by kernel_rfl
theorem ahS:bX Tryz.prog 83=true:=by kernel_rfl
theorem Il:bX Tryz.prog 88=true:=by kernel_rfl
theorem ahT:bX Tryz.prog 89=true:=by kernel_rfl
theorem ahU:bX Tryz.prog 92=true:=by kernel_rfl
theorem ahV:bX Tryz.prog 93=true:=by kernel_rfl
theorem ahW:bX Tryz.prog 94=true:=by kernel_rfl
theorem ahX:bX Tryz.prog 95=true:=by kernel_rfl
theorem ahY:bX Tryz.prog 109=true:=by kernel_rfl
theorem VG:bX Tryz.prog 110=true:=by kernel_rfl
theorem VH:bX Tryz.prog 111=true:=by kernel_rfl
theorem ahZ:bX Tryz.prog 112=true:=by kernel_rfl
theorem ah0:bX Tryz.prog 113=true:=by kernel_rfl
theorem ah1:bX Tryz.prog 114=true:=by kernel_rfl
theorem ah2:bX Tryz.prog 122=true:=by kernel_rfl
theorem MU:bX Tryz.prog 131=true:=by kernel_rfl
theorem ah3:bX Tryz.prog 132=true:=by kernel_rfl
theorem ah4:bX Tryz.prog 151=true:=by kernel_rfl
theorem VI:bX Tryz.prog 152=true:=by kernel_rfl
theorem ah5:bX Tryz.prog 153=true:=by kernel_rfl
theorem vI:bX Tryz.prog 154=true:=by kernel_rfl
theorem ah6:bX Tryz.prog 155=true:=by kernel_rfl
theorem VJ:bX Tryz.prog 156=true:=by kernel_rfl
theorem ah7:bX Tryz.prog 157=true:=by kernel_rfl
theorem EA:bX Tryz.prog 158=true:=by kernel_rfl
theorem MV:bX Tryz.prog 159=true:=by kernel_rfl
theorem Im:bX Tryz.prog 168=true:=by kernel_rfl
theorem VK:bX Tryz.prog 169=true:=by kernel_rfl
theorem VL:bX Tryz.prog 184=true:=by kernel_rfl
theorem ah8:bX Tryz.prog 185=true:=by kernel_rfl
theorem ah9:bX Tryz.prog 186=true:=by kernel_rfl
theorem VM:bX Tryz.prog 187=true:=by kernel_rfl
theorem VN:bX Tryz.prog 188=true:=by kernel_rfl
theorem MW:bX Tryz.prog 193=true:=by kernel_rfl
theorem MX:bX Tryz.prog 200=true:=by kernel_rfl
theorem vJ:bX Tryz.prog 201=true:=by kernel_rfl
theorem ah_:bX Tryz.prog 202=true:=by kernel_rfl
theorem ah':bX Tryz.prog 203=true:=by kernel_rfl
theorem aia:bX Tryz.prog 206=true:=by kernel_rfl
theorem VO:bX Tryz.prog 207=true:=by kernel_rfl
theorem aib:bX Tryz.prog 211=true:=by kernel_rfl
theorem VP:bX Tryz.prog 212=true:=by kernel_rfl
theorem MY:bX Tryz.prog 215=true:=by kernel_rfl
theorem VQ:bX Tryz.prog 220=true:=by kernel_rfl
theorem aic:bX Tryz.prog 223=true:=by kernel_rfl
end Go.Proofs
