/-
  What the law WorkerRots needs, part 4 of 7: theory, and walks through the code. Names are said short.
-/
import Derived.Test.YtjideiielmlccaaGreatSWorkerRotsC
set_option linter.unusedVariables false
set_option linter.unusedSimpArgs false
set_option maxRecDepth 20000
set_option maxHeartbeats 8000000
namespace Go.Proofs
open Go.aA Go.ab
theorem BN {w0:World} {cm er:Nat} {life:Int} {m:List (Int×Nat)} (s:Int) (aF:bp s) (aB:Row w0 cm 0 [.map (some er),.int .i64 life]) (hm:lO fo l' w0 er m) :
 Calls Tryz.prog 60 #[ptr cm 0,.int .i64 s] w0 (aj fun aD ai=>aD=(match fH m s with|none=>.tuple #[.pointer none,.int .i64 4]|some p=>.tuple #[ptr p 0,.int .i64 0])∧Ext w0 ai):=by
 have dz:=ar.hR w0;refine bS Tryz.func60 rfl Tryz.ntmps60 rfl (.go 10 rfl (.z (.nr Tryz.underlying62 rfl rfl) (.go 7 rfl (.z (.fieldAddr K4 rfl) (have bK:=aB.sub 0 1 dx;.z (.dT K3 bK) (.go 1 rfl ?_))))))
 cases oI:fH m s with
 | none =>
  refine .z (.Sf (key:=fo) (val:=l') (tD Tryz.underlying3) Tryz.underlying162 Tryz.zeroValue117 rfl rfl (fun _ e=>e▸hm) oI) ?_
  refine .z (.nr Tryz.underlying117 rfl rfl) ?_
  refine .ae 8 rfl ?_
  exact bM Tryz.func60 rfl rfl rfl (aj.mk ⟨rfl,dz.mod⟩)
 | some aeJ =>
  refine .z (.Df (key:=fo) (val:=l') (tD Tryz.underlying3) Tryz.underlying162 Tryz.zeroValue117 rfl rfl (fun _ e=>e▸hm) oI) ?_
  refine .z (.nr Tryz.underlying117 rfl rfl) ?_
  refine .go 9 rfl ?_
  refine .z (.fieldAddr K4 rfl) ?_
  have c_:=aB.sub 0 1 dx
  refine .z (.dT K3 c_) ?_
  refine .go 1 rfl ?_
  refine .z (.Df (key:=fo) (val:=l') (tD Tryz.underlying3) Tryz.underlying162 Tryz.zeroValue117 rfl rfl (fun _ e=>e▸hm) oI) ?_
  refine .ae 3 rfl ?_
  exact bM Tryz.func60 rfl rfl rfl (aj.mk ⟨rfl,dz.mod⟩)
theorem aeK {w0:World} {F:Nat→Prop} {cm:Nat} {life:Int} {K:List cW} (s:Int) (aF:bp s) (bg:(hT (R:=fun _=>False) 164 123 5 cm life K).p F w0) (bO:∀ b,F b→b < w0.heap.size) (eC:oB K) :
 Calls Tryz.prog 94 #[ptr cm 0,.int .i64 s] w0 (aj fun aD ai=>∃ v,aD=.tuple #[v,.int .i64 (r2 K s)]∧(∃ g,Acc dR 5 1 ai g v (hl K s)∧(g=0∨w0.heap.size < g))∧Ext w0 ai):=by
 have dz:=ar.hR w0;obtain ⟨D,er,iE,tV,tW,Hj⟩:=GC bg;refine bS Tryz.func94 rfl Tryz.ntmps94 rfl (.go 9 rfl ?_)
 cases aO:iX K s with
 | none =>
  refine .ac (.aE BL rfl (BN (w0:=w0) s aF (tV.row.ext dz.mod) (tW.ext dz.mod)) ?_)
  rintro _ ai ⟨rfl,au⟩
  have cP:=dz.ext au
  rw [Ky iE aO]
  dsimp only
  refine .go 10 rfl ?_
  refine .ev (.ne rfl rfl) fun aG aJ=>?_
  obtain rfl:aG=true:=aJ.trans (by rfl)
  refine .ae 8 rfl ?_
  exact bM Tryz.func94 rfl rfl rfl (aj.mk ⟨.slice none 0 0,(congrArg (fun z:Int=>Value.tuple #[.slice none 0 0,.int .i64 z]) (xV aO).1.symm),⟨0,Acc.cast Acc.nil (xV aO).2.1.symm,.inl rfl⟩,cP.mod⟩)
 | some AX =>
  obtain ⟨k,y,hk,av,Bq,has⟩:=Sb iE aO
  refine .ac (.aE BL rfl (BN (w0:=w0) s aF (tV.row.ext dz.mod) (tW.ext dz.mod)) ?_)
  rintro _ ai ⟨rfl,au⟩
  have cP:=dz.ext au
  rw [has]
  dsimp only
  have F2:1≤y.eQ.length∧y.eQ.length≤4000000∧y.now.length=y.eQ.length:=by subst av; exact eC.2 _ (Bk aO).2
  obtain ⟨mb,fJ,JH,akw,aeL⟩:=Hj y (List.mem_of_getElem? hk)
  refine .go 10 rfl ?_
  refine .wG (.ne rfl rfl) (by rfl) ?_
  refine .go 7 rfl ?_
  refine .z (.fieldAddr DC rfl) ?_
  have f1:=JH.row.keep cP.mod (fun h=>h)
  have bK:=f1.sub 1 1 dx
  refine .z (.dT vm bK) ?_
  have f2:=cP.out aeL (fun _ _ h=>h)
  refine .ac (.aE DH rfl (DJ (w0:=ai) (s:=y.now)  (f2.mono (fun b U=>⟨Nat.zero_le _,Nat.lt_of_lt_of_le (bO b U) cP.mod.size⟩)) aU) ?_)
  rintro v1 aZ ⟨⟨h2,h1,cf⟩,ax⟩
  have bJ:=(cP.fU ax h1 cf).cJ
  clear cf
  have jl:=h1.le
  refine .ae 3 rfl ?_
  refine bM Tryz.func94 rfl rfl rfl ?_
  obtain ⟨pM,zM,zN⟩:=bJ.vb (i:=0) rfl
  exact aj.mk ⟨_,(congrArg (fun z:Int=>Value.tuple #[_,.int .i64 z]) (Bp aO).1.symm),⟨pM,Acc.cast zM (by rw [(Bp aO).2.1,←av]; rfl),zN⟩,bJ.mod⟩
theorem aeM {w0:World} {F:Nat→Prop} {cm:Nat} {life:Int} {K:List cW} (bg:(hT (R:=fun _=>False) 164 123 5 cm life K).p F w0) :
 Calls Tryz.prog 52 #[ptr cm 0] w0 (aj fun aD ai=>aD=.int .i64 life∧Ext w0 ai):=by
 have dz:=ar.hR w0;obtain ⟨D,er,iE,tV,tW,Hj⟩:=GC bg;exact bS Tryz.func52 rfl Tryz.ntmps52 rfl (.go 8 rfl (.z (.nr Tryz.underlying62 rfl rfl) (.go 7 rfl (.z (.fieldAddr Hc rfl) (have bK:=tV.row.sub 1 1 dx;.z (.dT aP bK) (.ae 2 rfl (aL Tryz.func52 rfl rfl (aj.mk ⟨rfl,dz.mod⟩))))))))
theorem akx {w0:World} {F:Nat→Prop} {cm:Nat} {life:Int} {K:List cW} (s:Int) (aF:bp s) (bg:(hT (R:=fun _=>False) 164 123 5 cm life K).p F w0) (bO:∀ b,F b→b < w0.heap.size) (eC:oB K) :
 Calls Tryz.prog 74 #[ptr cm 0,.int .i64 s] w0 (aj fun aD ai=>aD=.int .i64 (r2 K s)∧Mod F w0 ai∧∃ cO,(hT (R:=fun _=>False) 164 123 5 cm life ((R5 K s))).p cO ai∧∀ b,cO b→b < ai.heap.size∧(F b∨w0.heap.size≤b)):=by
 have gB:=ar.nu (R:=fun _=>False) bg (fun b U=>⟨bO b U,id⟩) (fun _ h=>h.elim);have cP:ar (fun _=>False) F w0 w0 [hT 164 123 5 cm life K]:=gB;refine bS Tryz.func74 rfl Tryz.ntmps74 rfl (.go 8 rfl ?_)
 cases aO:iX K s with
 | none =>
  obtain ⟨jY,et,dZ,d'⟩:=cP.act (i:=0) rfl
  obtain ⟨D,er,iE,tV,tW,Hj⟩:=GC et
  clear d'
  refine .ac (.aE BL rfl (BN (w0:=w0) s aF tV.row tW) ?_)
  rintro _ ai ⟨rfl,au⟩
  have bx:=cP.ext au
  rw [Ky iE aO]
  dsimp only
  refine .go 10 rfl ?_
  refine .ev (.eq rfl rfl) fun aG aJ=>?_
  obtain rfl:aG=false:=aJ.trans (by rfl)
  refine .ae 8 rfl ?_
  refine aL Tryz.func74 rfl rfl ?_
  obtain ⟨cD,c0,c3,cQ⟩:=bx.fin
  exact aj.mk ⟨(congrArg (Value.int .i64) (xV aO).1.symm),cD,c0,by unfold R5; rw [(xV aO).2.2.2]; exact c3,cQ⟩
 | some AX =>
  obtain ⟨jY,et,dZ,d'⟩:=cP.act (i:=0) rfl
  obtain ⟨D,k,y,er,iE,hk,av,Bq,has,tX⟩:=Sc et aO
  have bx:ar (fun _=>False) F w0 w0 [bA [az cm [.map (some er),.int .i64 life] 164,kb fo l' er (D.map fun x=>(x.shard,x.ptr)),bA ((D.take k).map (gr 123 5)),gr 123 5 y,bA ((D.drop (k+1)).map (gr 123 5))]]:=d' _ _ _ (Mod.refl _ _) tX (fun b U=>⟨(dZ b U).2,.inl U⟩)
  clear d' et tX
  have bJ:=(bx.un 0 rfl [] (by rfl) (by decide)).c6
  have f1:=bJ.k 0
  have f2:=bJ.map (i:=1) rfl
  refine .ac (.aE BL rfl (BN (w0:=w0) s aF (f1).row f2) ?_)
  rintro _ ai ⟨rfl,au⟩
  have b2:=bJ.ext au
  rw [has]
  dsimp only
  have F2:1≤y.eQ.length∧y.eQ.length≤4000000∧y.now.length=y.eQ.length:=by subst av; exact eC.2 _ (Bk aO).2
  obtain ⟨⟨mb,fJ⟩,bP⟩:=b2.iO (i:=3) rfl
  change ar (fun _=>False) F w0 ai [az cm [.map (some er),.int .i64 life] 164,kb fo l' er ((D.map fun x=>(x.shard,x.ptr))),bA ((D.take k).map (gr 123 5)),bA [az y.ptr [mb,fJ] 123,bb dR 5 1 mb y.eQ,bb dR 5 1 fJ y.now],bA ((D.drop (k+1)).map (gr 123 5))] at bP
  have bo:=(bP.un 3 rfl [0,1,2,4] (by rfl) (by decide)).n7
  refine .go 10 rfl ?_
  refine .By (.eq rfl rfl) (by rfl) ?_
  refine .go 6 rfl ?_
  have f3:=bo.k 4
  refine .a_ TB vm f3 ?_
  obtain ⟨g1,f4,b6,bw⟩:=bo.bU (i:=5) rfl
  refine .ac (.aE DH rfl (DJ (w0:=ai) (s:=y.eQ)  (f4.bl.b0 (Nat.zero_le _) f4.lt) aU) ?_)
  rintro v1 aZ ⟨⟨h2,h1,cf⟩,ax⟩
  have cv:=(bo.fU ax h1 cf).n8
  clear cf
  have jl:=h1.le
  refine .go 1 rfl ?_
  refine .z (.fieldAddr DC rfl) ?_
  obtain ⟨g2,f5,dG,cB⟩:=cv.bU (i:=7) rfl
  obtain ⟨br,bs,ej⟩:=f5.shape
  subst ej
  have f6:=cv.k 4
  refine .ac (.st vm f6 fun bz aM a1=>?_)
  have cI:=(cv.cL (cs':=[mb,(.slice br ((y.eQ)).length bs)]) (i:=4) rfl aM a1).n8
  refine .ae 6 rfl ?_
  refine aL Tryz.func74 rfl rfl ?_
  have b8:=(cI.bn [0,1,2,3,6] 4 5 7 (by rfl) (by decide)).n6
  have bW:=(b8.hJ (A:=fun vs:Value×Value=>bA [az y.ptr [vs.1,vs.2] 123,bb dR 5 1 vs.1 y.eQ,bb dR 5 1 vs.2 y.eQ]) (mb,(.slice br ((y.eQ)).length bs)) (i:=5) rfl).n6
  have ct:=(bW.cR [4] 0 1 2 5 3 (by rfl) (by decide)).cK
  have cq:=(ct.ty (hT 164 123 5 cm life ((oA K s id))) 1 rfl (fun eS bN=>Sd (f:=id) iE eC hk Bq bN)).cK
  have bF:=(cq.dj [1] (by rfl) (by decide)).cJ
  obtain ⟨cD,c0,c3,cQ⟩:=bF.fin
  exact aj.mk ⟨(congrArg (Value.int .i64) (Bp aO).1.symm),cD,c0,c3,cQ⟩
theorem aeN {w0:World} {F:Nat→Prop} {cm:Nat} {life:Int} {K:List cW} (s at_ x:Int) (aF:bp s) (bg:(hT (R:=fun _=>False) 164 123 5 cm life K).p F w0) (bO:∀ b,F b→b < w0.heap.size) (eC:oB K) :
 Calls Tryz.prog 27 #[ptr cm 0,.int .i64 s,.int .i64 at_,.int .i64 x] w0 (aj fun aD ai=>aD=.int .i64 (r2 K s)∧Mod F w0 ai∧∃ cO,(hT (R:=fun _=>False) 164 123 5 cm life ((Dd K s at_ x))).p cO ai∧∀ b,cO b→b < ai.heap.size∧(F b∨w0.heap.size≤b)):=by
 have gB:=ar.nu (R:=fun _=>False) bg (fun b U=>⟨bO b U,id⟩) (fun _ h=>h.elim);have cP:ar (fun _=>False) F w0 w0 [hT 164 123 5 cm life K]:=gB;refine bS Tryz.func27 rfl Tryz.ntmps27 rfl (.go 8 rfl ?_)
 cases aO:iX K s with
 | none =>
  obtain ⟨jY,et,dZ,d'⟩:=cP.act (i:=0) rfl
  obtain ⟨D,er,iE,tV,tW,Hj⟩:=GC et
  clear d'
  refine .ac (.aE BL rfl (BN (w0:=w0) s aF tV.row tW) ?_)
  rintro _ ai ⟨rfl,au⟩
  have bx:=cP.ext au
  rw [Ky iE aO]
  dsimp only
  refine .go 10 rfl ?_
  refine .ev (.eq rfl rfl) fun aG aJ=>?_
  obtain rfl:aG=false:=aJ.trans (by rfl)
  refine .ae 8 rfl ?_
  refine aL Tryz.func27 rfl rfl ?_
  obtain ⟨cD,c0,c3,cQ⟩:=bx.fin
  exact aj.mk ⟨(congrArg (Value.int .i64) (xV aO).1.symm),cD,c0,by unfold Dd; rw [(xV aO).2.2.2]; exact c3,cQ⟩
 | some AX =>
  obtain ⟨jY,et,dZ,d'⟩:=cP.act (i:=0) rfl
  obtain ⟨D,k,y,er,iE,hk,av,Bq,has,tX⟩:=Sc et aO
  have bx:ar (fun _=>False) F w0 w0 [bA [az cm [.map (some er),.int .i64 life] 164,kb fo l' er (D.map fun x=>(x.shard,x.ptr)),bA ((D.take k).map (gr 123 5)),gr 123 5 y,bA ((D.drop (k+1)).map (gr 123 5))]]:=d' _ _ _ (Mod.refl _ _) tX (fun b U=>⟨(dZ b U).2,.inl U⟩)
  clear d' et tX
  have bJ:=(bx.un 0 rfl [] (by rfl) (by decide)).c6
  have f1:=bJ.k 0
  have f2:=bJ.map (i:=1) rfl
  refine .ac (.aE BL rfl (BN (w0:=w0) s aF (f1).row f2) ?_)
  rintro _ ai ⟨rfl,au⟩
  have b2:=bJ.ext au
  rw [has]
  dsimp only
  have F2:1≤y.eQ.length∧y.eQ.length≤4000000∧y.now.length=y.eQ.length:=by subst av; exact eC.2 _ (Bk aO).2
  obtain ⟨⟨mb,fJ⟩,bP⟩:=b2.iO (i:=3) rfl
  change ar (fun _=>False) F w0 ai [az cm [.map (some er),.int .i64 life] 164,kb fo l' er ((D.map fun x=>(x.shard,x.ptr))),bA ((D.take k).map (gr 123 5)),bA [az y.ptr [mb,fJ] 123,bb dR 5 1 mb y.eQ,bb dR 5 1 fJ y.now],bA ((D.drop (k+1)).map (gr 123 5))] at bP
  have bo:=(bP.un 3 rfl [0,1,2,4] (by rfl) (by decide)).n7
  refine .go 10 rfl ?_
  refine .By (.eq rfl rfl) (by rfl) ?_
  refine .go 7 rfl ?_
  have f3:=bo.k 4
  refine .a_ TB vm f3 ?_
  obtain ⟨g1,f4,b6,bw⟩:=bo.bU (i:=5) rfl
  refine .ac (.aE DH rfl (DJ (w0:=ai) (s:=y.eQ)  (f4.bl.b0 (Nat.zero_le _) f4.lt) aU) ?_)
  rintro v1 aZ ⟨⟨h2,h1,cf⟩,ax⟩
  have cv:=(bo.fU ax h1 cf).n8
  clear cf
  have jl:=h1.le
  refine .go 1 rfl ?_
  refine .z (.fieldAddr DC rfl) ?_
  obtain ⟨g2,f5,dG,cB⟩:=cv.bU (i:=7) rfl
  obtain ⟨br,bs,ej⟩:=f5.shape
  subst ej
  have f6:=cv.k 4
  refine .ac (.st vm f6 fun bz aM a1=>?_)
  have cI:=(cv.cL (cs':=[mb,(.slice br ((y.eQ)).length bs)]) (i:=4) rfl aM a1).n8
  refine .ae 1 rfl ?_
  refine fx (fun i=>Nat.beq i 22) 22 (fun ah=>Mod (b5 0) bz ah) mixed (by kernel_rfl) fun cj aW=>?_
  have b8:=cI.ext aW
  have kx:Mod (b5 0) bz cj:=Mod.gW aW
  refine ⟨kx,?_⟩
  rw [show List.range' 0 (Array.size _)=[0,1,2,3,4,5,6,7,8,9,10,11,12,13,14,15,16,17,18,19,20,21,22] from rfl]
  refine .gd 2 rfl ?_
  refine .z rfl (.fieldAddr DC rfl) ?_
  have f7:=cI.k 4
  refine .z rfl (.cT vm rfl (fun _ an=>(f7.cell 1 _ rfl).bt an (Nat.succ_ne_zero _))) ?_
  refine .gd 1 rfl ?_
  refine .z rfl (.rK (by kernel_rfl) Tryz.underlying96 rfl) ?_
  have aeO:=ab.Jg at_
  refine .gd 2 rfl ?_
  refine .z rfl (.fieldAddr DC rfl) ?_
  refine .z rfl (.cT vm rfl (fun _ an=>(f7.cell 1 _ rfl).bt an (Nat.succ_ne_zero _))) ?_
  obtain ⟨g3,f8,e1,d_⟩:=cI.bU (i:=7) rfl
  refine .z rfl (.ca Tryz.underlying120 (f8.bl) rfl) ?_
  refine .z rfl (.np (by kernel_rfl) Tryz.underlying96 rfl (IntWalk.u64_in _ (by omega))) ?_
  have:=Int.emod_nonneg ((IntKind.u64.wrap at_):Int) (by omega:(((((y.eQ)).length:Nat):Int):Int)≠0)
  have:=Int.emod_lt_of_pos ((IntKind.u64.wrap at_):Int) (by omega:(0:Int) < ((((y.eQ)).length:Nat):Int))
  refine .z rfl (.rJ (((IntKind.u64.wrap at_) % (((((y.eQ)).length:Nat):Int)))) rfl rfl ⟨by omega,by omega,rfl⟩) ?_
  have TW:=ab.y3 at_ (y.eQ.length:Int) (by omega)
  unfold ab.lK at TW
  have aky:((IntKind.u64.wrap at_) % (((y.eQ.length:Nat):Int))).toNat < y.eQ.length:=RN (by omega) at_
  obtain ⟨aw,aN,fE,a7,bK,f',cV⟩:=ak.eH (P:=Tryz.prog) f8.bl Tryz.underlying120 jW nP (k:=.u64) (n:=((IntKind.u64.wrap at_) % (((((y.eQ)).length:Nat):Int)))) ((((IntKind.u64.wrap at_) % (((((y.eQ)).length:Nat):Int)))).toNat) (by omega) aU
  refine .z rfl (.indexAddr rfl rfl bK) ?_
  refine .z rfl (.cT jW rfl (fun _ an=>cV.bt an (Nat.succ_ne_zero _))) ?_
  refine .gd 1 rfl ?_
  refine .z rfl (.rK (by kernel_rfl) Tryz.underlying96 rfl) ?_
  have akz:=ab.Jg x
  have:=Int.emod_nonneg ((IntKind.u64.wrap x):Int) (by omega:(255:Int)≠0)
  have:=Int.emod_lt_of_pos ((IntKind.u64.wrap x):Int) (by omega:(0:Int) < 255)
  refine .z rfl (.rJ (((IntKind.u64.wrap x) % 255)) rfl rfl ⟨by omega,by omega,rfl⟩) ?_
  refine .z rfl (.Y1 ((1+(((IntKind.u64.wrap x) % 255)))) rfl rfl (by omega)) ?_
  refine .z rfl (.rW (by kernel_rfl) Tryz.underlying5 rfl) ?_
  refine .z rfl (.Y0 (a:=aw) (b:=(fK ((1+(((IntKind.u64.wrap x) % 255)))))) rfl rfl) ?_
  obtain ⟨c_,x2,cY⟩:=Acc.at (P:=Tryz.prog) f8 Tryz.underlying120 jW (k:=.u64) (n:=((IntKind.u64.wrap at_) % (((((y.eQ)).length:Nat):Int)))) ((((IntKind.u64.wrap at_) % (((((y.eQ)).length:Nat):Int)))).toNat) (by omega) (by first|assumption|omega|(simp; done))
  refine .z rfl (.indexAddr rfl rfl c_) ?_
  obtain ⟨g4,f9,h4,hS⟩:=b8.bU (i:=7) rfl
  have sV:=Acc.uniq f8 f9
  subst sV
  refine .ac rfl (.rT f9 nP (i:=((((IntKind.u64.wrap at_) % (((((y.eQ)).length:Nat):Int)))).toNat)) (o:=0) cY ((aw ^^^ (fK ((1+(((IntKind.u64.wrap x) % 255))))))) jW rfl (by first|omega|rfl) rfl rfl rfl rfl (by decide) (by first|rfl|simp [dR]) fun cM bh eY b7=>?_)
  have hU:(((y.eQ)).set ((((IntKind.u64.wrap at_) % (((((y.eQ)).length:Nat):Int)))).toNat) ((aw ^^^ (fK ((1+(((IntKind.u64.wrap x) % 255)))))))).length=((y.eQ)).length:=List.length_set
  have bW:=(hS _ _ _ _ bh b7 (.inl rfl)).n8
  refine ⟨.inl rfl,?_⟩
  refine .nil ?_
  have ct:=(bW.ty (bb dR 5 1 ((.slice br ((y.eQ)).length bs)) ((qf y.eQ at_ x))) 7 rfl (fun eS bN=>(by rw [RO a7]; exact bN))).n8
  refine .ae 5 rfl ?_
  refine aL Tryz.func27 rfl rfl ?_
  have cq:=(ct.bn [0,1,2,3,6] 4 5 7 (by rfl) (by decide)).n6
  have bF:=(cq.hJ (A:=fun vs:Value×Value=>bA [az y.ptr [vs.1,vs.2] 123,bb dR 5 1 vs.1 y.eQ,bb dR 5 1 vs.2 (qf y.eQ at_ x)]) (mb,(.slice br ((y.eQ)).length bs)) (i:=5) rfl).n6
  have cg:=(bF.cR [4] 0 1 2 5 3 (by rfl) (by decide)).cK
  have cz:=(cg.ty (hT 164 123 5 cm life ((oA K s (fun b=>qf b at_ x)))) 1 rfl (fun eS bN=>Sd (f:=(fun b=>qf b at_ x)) iE eC hk Bq bN)).cK
  have cS:=(cz.dj [1] (by rfl) (by decide)).cJ
  obtain ⟨cD,c0,c3,cQ⟩:=cS.fin
  exact aj.mk ⟨(congrArg (Value.int .i64) (Bp aO).1.symm),cD,c0,c3,cQ⟩
theorem aeP {w0:World} {F:Nat→Prop} {cm:Nat} {life:Int} {K:List cW} (TX:0≤life∧life≤1000000) (bg:(hT (R:=fun _=>False) 164 123 5 cm life K).p F w0) (bO:∀ b,F b→b < w0.heap.size) :
 Calls Tryz.prog 92 #[ptr cm 0] w0 (aj fun aD ai=>aD=.int .i64 (life+1)∧Mod F w0 ai∧∃ cO,(hT (R:=fun _=>False) 164 123 5 cm ((life+1)) K).p cO ai∧∀ b,cO b→b < ai.heap.size∧(F b∨w0.heap.size≤b)):=by
 have gB:=ar.nu (R:=fun _=>False) bg (fun b U=>⟨bO b U,id⟩) (fun _ h=>h.elim);have cP:ar (fun _=>False) F w0 w0 [hT 164 123 5 cm life K]:=gB;obtain ⟨jY,et,dZ,d'⟩:=cP.act (i:=0) rfl;obtain ⟨D,er,iE,tX⟩:=Se et;have bx:ar (fun _=>False) F w0 w0 [bA [az cm [.map (some er),.int .i64 life] 164,kb fo l' er (D.map fun x=>(x.shard,x.ptr)),bA (D.map (gr 123 5))]]:=d' _ _ _ (Mod.refl _ _) tX (fun b U=>⟨(dZ b U).2,.inl U⟩);clear d' et tX;have bJ:=(bx.un 0 rfl [] (by rfl) (by decide)).dM;refine bS Tryz.func92 rfl Tryz.ntmps92 rfl ?_;refine .go 8 rfl ?_;refine .z (.nr Tryz.underlying62 rfl rfl) ?_;refine .go 7 rfl ?_;have f1:=bJ.k 0;refine .a_ Hc aP f1 ?_;refine .z (.bZ ((life+1)) rfl rfl (by omega)) ?_;refine .go 1 rfl ?_;refine .z (.fieldAddr Hc rfl) ?_;refine .ac (.st aP f1 fun ai au a1=>?_);have b2:=(bJ.cL (cs':=[.map (some er),.int .i64 ((life+1))]) (i:=0) rfl au a1).dM;refine .go 5 rfl ?_;have f2:=b2.k 0;refine .a_ Hc aP f2 ?_;refine .ae 2 rfl ?_;refine aL Tryz.func92 rfl rfl ?_;have bP:=(b2.bn [] 0 1 2 (by rfl) (by decide)).cJ;have bo:=(bP.ty (hT 164 123 5 cm ((life+1)) K) 0 rfl (fun eS bN=>abL iE bN)).cJ;obtain ⟨cD,c0,c3,cQ⟩:=bo.fin;exact aj.mk ⟨rfl,cD,c0,c3,cQ⟩
end Go.Proofs
namespace Go.Proofs
open Go.aA Go.ab
theorem aeQ {w0:World}  (a:ag) (b:ag)  :
 Calls Tryz.prog 182 #[aH a,aH b] w0 (aj fun aD ai=>aD=.int .i64 (Lib.compareBytes a b)∧Ext w0 ai∧bp (Lib.compareBytes a b)):=by
 have ba:Ext w0 w0:=Mod.refl _ _;exact bS Tryz.func182 rfl Tryz.ntmps182 rfl (.go 8 rfl (.ac (.XF Tryz.func199 (by kernel_rfl) (by kernel_rfl) (by kernel_rfl) (e:=Extern.BytealgCompare.compare) (by kernel_rfl) rfl (Lib.run_compareString _ _ _) (.ae 2 rfl (aL Tryz.func182 rfl rfl (aj.mk ⟨(congrArg (Value.int .i64) (by rfl)),ba,by exact ab.tu _ _⟩))))))
theorem aeR {w0:World}  (a:ag) (b:ag)  :
 Calls Tryz.prog 148 #[aH a,aH b] w0 (aj fun aD ai=>aD=.int .i64 (Lib.compareBytes a b)∧Ext w0 ai∧bp (Lib.compareBytes a b)):=by
 have ba:Ext w0 w0:=Mod.refl _ _;refine bS Tryz.func148 rfl Tryz.ntmps148 rfl (.go 8 rfl (.ac (.aE aeB rfl (aeQ (w0:=w0)  a b ) ?_)));rintro _ ai ⟨rfl,au,n5⟩;have bf:=ba.ext au;have dW:=au.size;exact .ae 2 rfl (aL Tryz.func148 rfl rfl (aj.mk ⟨(congrArg (Value.int .i64) (by rfl)),bf,by exact ab.tu _ _⟩))
theorem Lf {w0:World}  (a:ag) (b:ag)  :
 Calls Tryz.prog 103 #[aH a,aH b] w0 (aj fun aD ai=>aD=.int .i64 (Lib.compareBytes a b)∧Ext w0 ai∧bp (Lib.compareBytes a b)):=by
 have ba:Ext w0 w0:=Mod.refl _ _;refine bS Tryz.func103 rfl Tryz.ntmps103 rfl (.go 8 rfl (.ac (.aE aeq rfl (aeR (w0:=w0)  a b ) ?_)));rintro _ ai ⟨rfl,au,n5⟩;have bf:=ba.ext au;have dW:=au.size;exact .ae 2 rfl (aL Tryz.func103 rfl rfl (aj.mk ⟨(congrArg (Value.int .i64) (by rfl)),bf,by exact ab.tu _ _⟩))
theorem Hk {w0:World}  (s:ag) (aF:s.length≤9223372036854775807) :
 Calls Tryz.prog 104 #[aH s] w0 (aj fun aD ai=>aD=.int .i64 (ab.hQ s)∧Ext w0 ai∧bp (ab.hQ s)):=by
 have ba:Ext w0 w0:=Mod.refl _ _;refine bS Tryz.func104 rfl Tryz.ntmps104 rfl (.go 12 rfl (.ac (.I8 Tryz.underlying9 rfl fun ai aG au aJ c9 a1=>have bf:=ba.ext au;have dW:=au.size;.ae 2 rfl (dU (I:=fun m E W=>∃ (k:Nat) (p:Nat),E=[(3,.int .i64 (((k:Nat):Int))),(7,ptr aG 0)]∧m=s.length-p∧Ext w0 W∧ai.heap.size≤W.heap.size∧qO W aG s p∧(ab.rM s p k)) ?_ ?_))))
 · refine ⟨_,_,⟨(0:Nat),(0:Nat),rfl,rfl,bf,Nat.le_refl _,a1,(by exact ab.rM.start s)⟩,⟨rfl,rfl,trivial⟩⟩
 · rintro _ _ aZ ⟨k,p,rfl,rfl,bk,e7,f1,al⟩ bV;refine .go 2 rfl (.ac (.hY rfl f1 ?_ ?_))
   · intro sV;exact .ae 10 rfl (aL Tryz.func104 rfl rfl (aj.mk ⟨(congrArg (Value.int .i64) (by first|exact al.fin (by assumption)|(exfalso; omega))),bk,by exact ab.Ft aF⟩))
   · intro bz sV ax eY bH;have bD:=Ext.hq bk ax (by omega);have hx:=ax.size;have hk:=al.lt sV;refine .go 15 rfl (.h8 (.eq rfl rfl) (fun aK=>?_) fun aK=>?_)
     · exact .ae 6 rfl (aL Tryz.func104 rfl rfl (aj.mk ⟨(congrArg (Value.int .i64) (by first|exact al.uV (by assumption) (by assumption)|(exfalso; omega))),bD,by exact ab.Ft aF⟩))
     exact .go 5 rfl (.z (.bZ (((k+1:Nat):Int)) rfl rfl (by omega)) (.ae 3 rfl ((bV _ _ _ ⟨(k+1:Nat),((p+(dec (s.drop p)).2):Nat),rfl,rfl,bD,(by omega),bH,(by first|exact al.next (by assumption) (by assumption)|(exfalso; omega))⟩ (by have:=ab.dec_lt (by assumption:List.drop p s≠[]); omega)).sub ⟨rfl,rfl,trivial⟩)))
theorem Lg {w0:World}  (s:ag) (aF:s.length≤9223372036854775807) :
 Calls Tryz.prog 102 #[aH s] w0 (aj fun aD ai=>(∃ b4:Bool,b4=(ab.word s)∧aD=.bool b4)∧Ext w0 ai):=by
 have ba:Ext w0 w0:=Mod.refl _ _;refine bS Tryz.func102 rfl Tryz.ntmps102 rfl (.go 7 rfl (.ac (.aE He rfl (Hk (w0:=w0)  s aU) ?_)));rintro _ ai ⟨rfl,au,n5⟩;have bf:=ba.ext au;have dW:=au.size;refine .go 5 rfl (.aX (.ge rfl rfl) (fun aJ=>?_) fun aJ=>?_)
 · exact .go 2 rfl (.ev (.le rfl rfl) fun aN aK=>.ae 3 rfl (aL Tryz.func102 rfl rfl (aj.mk ⟨⟨_,(by first|simp only [ab.word, *]; simp|(exfalso; omega)),rfl⟩,bf⟩)))
 exact .ae 6 rfl (aL Tryz.func102 rfl rfl (aj.mk ⟨⟨_,(by first|simp only [ab.word, *]; simp|(exfalso; omega)),rfl⟩,bf⟩))
theorem Lh {w0:World}  (s:ag) (aF:s.length≤9223372036854775807) :
 Calls Tryz.prog 126 #[aH s] w0 (aj fun aD ai=>(∃ b4:Bool,b4=(ab.asked s)∧aD=.bool b4)∧Ext w0 ai):=by
 have ba:Ext w0 w0:=Mod.refl _ _;refine bS Tryz.func126 rfl Tryz.ntmps126 rfl (.go 7 rfl (.ac (.aE He rfl (Hk (w0:=w0)  s aU) ?_)));rintro _ ai ⟨rfl,au,n5⟩;have bf:=ba.ext au;have dW:=au.size;refine .go 5 rfl (.aX (.ge rfl rfl) (fun aJ=>?_) fun aJ=>?_)
 · exact .go 2 rfl (.ev (.le rfl rfl) fun aN aK=>.ae 3 rfl (aL Tryz.func126 rfl rfl (aj.mk ⟨⟨_,(by first|simp only [ab.asked, *]; simp|(exfalso; omega)),rfl⟩,bf⟩)))
 exact .ae 6 rfl (aL Tryz.func126 rfl rfl (aj.mk ⟨⟨_,(by first|simp only [ab.asked, *]; simp|(exfalso; omega)),rfl⟩,bf⟩))
theorem jZ {p:Prop} (h:p:=by assumption):p:=h
theorem aeS {w0:World}  (s:ag) (aF:s.length≤1000000) :
 Calls Tryz.prog 127 #[aH s] w0 (aj fun aD ai=>∃ ec fF,aD=.tuple #[ec,fF]∧ak ie ai (aR w0.heap.size ai.heap.size) ec (ab.ji s)∧(∃ b4:Bool,b4=(ab.k0 s)∧fF=.bool b4)∧Ext w0 ai):=by
 have ba:Ext w0 w0:=Mod.refl _ _;refine bS Tryz.func127 rfl Tryz.ntmps127 rfl (.go 13 rfl (.ac (.I8 Tryz.underlying9 rfl fun ai aG au aJ c9 a1=>have bf:=ba.ext au;have dW:=au.size;.ae 2 rfl (dU (I:=fun m E W=>∃ (fQ:Value) (fN:Nat) (l:List Int) (p:Nat),E=[(4,fQ),(8,ptr aG 0)]∧m=s.length-p∧Ext w0 W∧ai.heap.size≤W.heap.size∧Acc ie 21 1 W fN fQ l∧(fN=0∨w0.heap.size < fN)∧qO W aG s p∧aG+1≠fN∧(ab.lL s p l)) ?_ ?_))))
 · refine ⟨_,_,⟨(.slice none 0 0:Value),(0:Nat),([]:List Int),(0:Nat),rfl,rfl,bf,Nat.le_refl _,Acc.nil,(by omega),a1,(by omega),(by exact ab.lL.start s)⟩,⟨rfl,rfl,trivial⟩⟩
 · rintro _ _ aZ ⟨fQ,fN,l,p,rfl,rfl,bk,e7,b7,cf,f1,nU,aB⟩ bV;have pk:=aB.len;have hle:=aB.pos;refine .go 2 rfl (.ac (.hY rfl f1 ?_ ?_))
   · intro sV;exact .ae 11 rfl (bM Tryz.func127 rfl rfl rfl (aj.mk ⟨_,_,rfl,(ak.cast (b7.fresh (by omega)) (by first|(with_reducible exact ab.pq (aB.uV jZ jZ))|(with_reducible exact aB.uV jZ jZ)|(with_reducible exact (aB.done jZ).1.trans (ab.pr (aB.done jZ).2))|(with_reducible exact (aB.done jZ).2)|(exfalso; omega))),⟨_,(by first|(with_reducible exact ab.pq (aB.uV jZ jZ))|(with_reducible exact aB.uV jZ jZ)|(with_reducible exact (aB.done jZ).1.trans (ab.pr (aB.done jZ).2))|(with_reducible exact (aB.done jZ).2)|(exfalso; omega)),rfl⟩,bk⟩))
   · intro bz sV ax eY bH;have b6:=b7.lt;have f2:=b7.bt ax (by omega);have bD:=Ext.hq bk ax (by omega);have hx:=ax.size;refine .go 15 rfl (.h8 (.eq rfl rfl) (fun aK=>?_) fun aK=>?_)
     · exact .ae 7 rfl (bM Tryz.func127 rfl rfl rfl (aj.mk ⟨_,_,rfl,(ak.cast ak.nil (by first|(with_reducible exact ab.pq (aB.uV jZ jZ))|(with_reducible exact aB.uV jZ jZ)|(with_reducible exact (aB.done jZ).1.trans (ab.pr (aB.done jZ).2))|(with_reducible exact (aB.done jZ).2)|(exfalso; omega))),⟨_,(by first|(with_reducible exact ab.pq (aB.uV jZ jZ))|(with_reducible exact aB.uV jZ jZ)|(with_reducible exact (aB.done jZ).1.trans (ab.pr (aB.done jZ).2))|(with_reducible exact (aB.done jZ).2)|(exfalso; omega)),rfl⟩,bD⟩))
     exact .go 6 rfl (.ac (.buildSlice [(.int .i32 (((dec (s.drop p)).1:Int)):Value)] Tryz.underlying179 hn rfl rfl rfl (by decide) fun cj bn aM aV gh cE=>have dG:=f2.lt;have f3:=f2.ext aM;have f4:=bH.ext aM;have ek:=bD.ext aM;have je:=aM.size;have e1:=ak.eP (enc:=ie) cE ([((dec (s.drop p)).1:Int)]:List Int) 1 rfl rfl (by unfold maxLen; omega);have f':=f3.lt;.ac (.append f3 Tryz.underlying179 hn rfl nQ Cz rfl rfl (e1) ol gA fun v1 g1 cM dH aW eA gT=>have hU:=f3.lt;have f5:=f4.bt aW (by omega);have fq:=Ext.hq ek aW (by omega);have lv:=aW.size;.ae 3 rfl ((bV _ _ _ ⟨(v1:Value),(g1:Nat),((l++[((dec (s.drop p)).1:Int)]):List Int),((p+(dec (s.drop p)).2):Nat),rfl,rfl,fq,(by omega),dH,(by omega),f5,(by omega),(by first|exact aB.step jZ jZ|(exfalso; omega))⟩ (by have:=ab.dec_lt (by assumption:List.drop p s≠[]); omega)).sub ⟨rfl,rfl,trivial⟩))))
theorem Hl {p:Prop} (h:p:=by first|exact ab.OR (by omega)|exact ab.ON (by omega) a7 (by assumption)|exact ab.OS (by omega) ao aS a7 cY (by omega)|exact ab.OO (by omega) ao aB (by omega)|(exfalso; omega)):p:=h
theorem q_ {p:Prop} (h:p:=by omega):p:=h
theorem TY {w0:World}  {j0:Value} {words:List ag} (k8:ak cp w0 (aR 0 w0.heap.size) j0 words) (c7:ab.uW words) :
 Calls Tryz.prog 54 #[j0] w0 (aj fun aD ai=>aD=.int .i64 (ab.eD words)∧Ext w0 ai):=by
 have ba:Ext w0 w0:=Mod.refl _ _;have fg:=k8.le;refine bS Tryz.func54 rfl Tryz.ntmps54 rfl (.go 8 rfl (.z (.ca Tryz.underlying23 (k8) rfl) (.aX (.gt rfl rfl) (fun aJ=>?_) fun aJ=>?_)))
 · exact .ae 6 rfl (aL Tryz.func54 rfl rfl (aj.mk ⟨(congrArg (Value.int .i64) Hl),ba⟩))
 refine .go 7 rfl (.z (.ca Tryz.underlying23 (k8) rfl) (.ae 3 rfl (dU (I:=fun m E W=>∃ (k:Nat),E=[(0,j0),(9,j0),(10,.int .i64 (((words.length:Nat):Int))),(11,.int .i64 (((k:Nat):Int)))]∧m=words.length-k∧Ext w0 W∧w0.heap.size≤W.heap.size∧ak cp W (aR 0 w0.heap.size) j0 words∧((words.take k).all ab.word=true)) ?_ ?_)))
 · refine ⟨_,_,⟨(0:Nat),rfl,rfl,ba,Nat.le_refl _,k8,(by rfl)⟩,⟨rfl,rfl,rfl,rfl,trivial⟩⟩
 · rintro _ _ ai ⟨k,rfl,rfl,bf,dW,f1,al⟩ bV;refine .go 2 rfl (.aX (.lt rfl rfl) (fun aK=>?_) fun aK=>?_)
   · refine .ae 2 rfl ?_;obtain ⟨aw,bn,fE,a7,bK,b6,iR,cV⟩:=ak.ft (P:=Tryz.prog) f1 Tryz.underlying23 dp hr (k:=.i64) (n:=((k:Nat):Int)) (k) q_ aU;refine .go 6 rfl (.z (.indexAddr rfl rfl bK) (.z (.dT dp cV) (.go 5 rfl (.ac (.aE K9 rfl (Lg (w0:=ai)  aw (by exact c7.at (by assumption))) ?_)))));rintro _ aZ ⟨⟨bj,aV,rfl⟩,au⟩;have f2:=f1.ext au;have bk:=bf.ext au;have e7:=au.size;cases bj
     case true =>
      replace aV:=aV.symm;exact .z (.not rfl) (.go 5 rfl (.z (.bZ (((k+1:Nat):Int)) rfl rfl q_) (.ae 2 rfl ((bV _ _ _ ⟨(k+1:Nat),rfl,rfl,bk,q_,f2,(by first|exact ab.y1 al (by assumption) (by assumption)|(exfalso; omega))⟩ q_).sub ⟨rfl,rfl,rfl,rfl,trivial⟩))))
     replace aV:=aV.symm;exact .z (.not rfl) (.ae 6 rfl (aL Tryz.func54 rfl rfl (aj.mk ⟨(congrArg (Value.int .i64) Hl),bk⟩)))
   refine .ae 10 rfl (dU (I:=fun m E W=>∃ (j:Nat),E=[(0,j0),(5,.int .i64 (((j:Nat):Int)))]∧m=words.length-j∧Ext w0 W∧ai.heap.size≤W.heap.size∧ak cp W (aR 0 w0.heap.size) j0 words∧(1≤j)∧(ab.rising (words.take j)=true)) ?_ ?_)
   · refine ⟨_,_,⟨(1:Nat),rfl,rfl,bf,Nat.le_refl _,f1,q_,(by exact ab.OM _)⟩,⟨rfl,rfl,trivial⟩⟩
   · rintro _ _ aZ ⟨j,rfl,rfl,bk,e7,f2,aS,aB⟩ fk;have ao:=ab.Fs al (by omega);refine .go 5 rfl (.z (.ca Tryz.underlying23 (f2) rfl) (.aX (.lt rfl rfl) (fun aV=>?_) fun aV=>?_))
     · refine .ae 6 rfl (fx (fun i=>Nat.beq i 9) 11 (fun ah=>Mod (b5 0) aZ ah) mixed (by kernel_rfl) fun bz au=>have f3:=f2.ext au;have bD:=bk.ext au;have hx:=au.size;have jx:Mod (b5 0) aZ bz:=Mod.gW au;⟨jx,?_⟩);rw [show List.range' 0 (Array.size _)=[0,1,2,3,4,5,6,7,8,9,10] from rfl];refine .gd 2 rfl (.z rfl (.il ((((j:Nat):Int)-1)) rfl rfl q_) ?_);obtain ⟨aw,bj,fE,a7,bK,b6,iR,cV⟩:=ak.ft (P:=Tryz.prog) f2 Tryz.underlying23 dp hr (k:=.i64) (n:=(((j:Nat):Int)-1)) ((j-1)) q_ aU;refine .z rfl (.indexAddr rfl rfl bK) (.z rfl (.cT dp rfl (fun _ an=>cV.bt an q_)) ?_);obtain ⟨x2,cR,iv,cY,c_,dG,qo,eL⟩:=ak.ft (P:=Tryz.prog) f2 Tryz.underlying23 dp hr (k:=.i64) (n:=((j:Nat):Int)) (j) q_ aU;refine .gd 2 rfl (.z rfl (.indexAddr rfl rfl c_) (.z rfl (.cT dp rfl (fun _ an=>eL.bt an q_)) (.ac rfl (.aE K_ rfl (Lf (w0:=bz)  aw x2 ) ?_))));rintro _ cj ⟨rfl,ax,n5⟩;have f4:=f3.ext ax;have ek:=bD.ext ax;have je:=ax.size;have kx:=jx.ext ax;refine ⟨.inr kx,.ev rfl (.ge rfl rfl) fun c8 bc=>.nil ?_⟩;cases c8
       case true =>
        replace bc:=Bz bc;exact .ae 5 rfl (aL Tryz.func54 rfl rfl (aj.mk ⟨(congrArg (Value.int .i64) Hl),ek⟩))
       replace bc:=BA bc;exact .go 5 rfl (.z (.bZ (((j+1:Nat):Int)) rfl rfl q_) (.ae 2 rfl ((fk _ _ _ ⟨(j+1:Nat),rfl,rfl,ek,q_,f4,(by first|omega|(exfalso; omega)),(by first|exact ab.OQ aB aS (by assumption) (by assumption) q_|(exfalso; omega))⟩ q_).sub ⟨rfl,rfl,trivial⟩)))
     exact .ae 7 rfl (aL Tryz.func54 rfl rfl (aj.mk ⟨(congrArg (Value.int .i64) Hl),bk⟩))
end Go.Proofs
namespace Go.Proofs
open Go.aA Go.ab
theorem TZ {w0:World}  (x:Int)  :
 Calls Tryz.prog 170 #[.int .i64 x] w0 (aj fun aD ai=>(∃ b4:Bool,b4=false∧aD=.bool b4)∧Ext w0 ai):=by
 have ba:Ext w0 w0:=Mod.refl _ _;exact bS Tryz.func170 rfl Tryz.ntmps170 rfl (.go 8 rfl (.ev (.ne rfl rfl) fun aG aJ=>.ae 2 rfl (aL Tryz.func170 rfl rfl (aj.mk ⟨⟨_,(by first|simpa using aJ|(exfalso; omega)),rfl⟩,ba⟩))))
theorem Li {p:Prop} (h:p:=by first|(unfold ab.nR; rw [if_pos (by omega)])|(unfold ab.nR; rw [if_neg (by omega),if_pos (by omega)])|(unfold ab.nR; rw [if_neg (by omega),if_neg (by omega)])|(exfalso; omega)):p:=h
theorem T0 {w0:World}  (x:Int) (y:Int)  :
 Calls Tryz.prog 134 #[.int .i64 x,.int .i64 y] w0 (aj fun aD ai=>aD=.int .i64 (ab.nR x y)∧Ext w0 ai):=by
 have ba:Ext w0 w0:=Mod.refl _ _;refine bS Tryz.func134 rfl Tryz.ntmps134 rfl (.go 7 rfl (.ac (.aE TO rfl (TZ (w0:=w0)  (x) ) ?_)));rintro _ ai ⟨⟨_,rfl,rfl⟩,au⟩;have bf:=ba.ext au;have dW:=au.size;refine .go 5 rfl (.ac (.aE TO rfl (TZ (w0:=ai)  (y) ) ?_));rintro _ aZ ⟨⟨_,rfl,rfl⟩,ax⟩;have bk:=bf.ext ax;have e7:=ax.size;refine .go 21 rfl (.aX (.lt rfl rfl) (fun aJ=>?_) fun aJ=>?_)
 · exact .ae 6 rfl (aL Tryz.func134 rfl rfl (aj.mk ⟨(congrArg (Value.int .i64) Li),bk⟩))
 refine .go 8 rfl (.aX (.gt rfl rfl) (fun aK=>?_) fun aK=>?_)
 · exact .ae 6 rfl (aL Tryz.func134 rfl rfl (aj.mk ⟨(congrArg (Value.int .i64) Li),bk⟩))
 exact .ae 7 rfl (aL Tryz.func134 rfl rfl (aj.mk ⟨(congrArg (Value.int .i64) Li),bk⟩))
theorem T1 {w0:World}  {Hm:Value} {vals:List Int} (Lj:ak aA.encI w0 (aR 0 w0.heap.size) Hm vals) :
 Calls Tryz.prog 133 #[Hm] w0 (aj fun aD ai=>aD=.int .i64 (ab.mL vals)∧Ext w0 ai):=by
 have ba:Ext w0 w0:=Mod.refl _ _;have fg:=Lj.le;refine bS Tryz.func133 rfl Tryz.ntmps133 rfl (.go 12 rfl (.z (.ca Tryz.underlying57 (Lj) rfl) (.ae 3 rfl (dU (I:=fun m E W=>∃ (k:Nat),E=[(3,.int .i64 0),(6,Hm),(7,.int .i64 (((vals.length:Nat):Int))),(8,.int .i64 (((k:Nat):Int)))]∧m=vals.length-k∧Ext w0 W∧w0.heap.size≤W.heap.size∧ak aA.encI W (aR 0 w0.heap.size) Hm vals∧(ab.mL vals=ab.mL (vals.drop k))) ?_ ?_))))
 · refine ⟨_,_,⟨(0:Nat),rfl,rfl,ba,Nat.le_refl _,Lj,(by rfl)⟩,⟨rfl,rfl,rfl,rfl,trivial⟩⟩
 · rintro _ _ ai ⟨k,rfl,rfl,bf,dW,f1,al⟩ bV;refine .go 2 rfl (.aX (.lt rfl rfl) (fun aJ=>?_) fun aJ=>?_)
   · refine .ae 2 rfl ?_;obtain ⟨aw,aN,fE,a7,bK,b6,iR,cV⟩:=ak.ft (P:=Tryz.prog) f1 Tryz.underlying57 aP aA.fy (k:=.i64) (n:=((k:Nat):Int)) (k) (by omega) aU;refine .go 6 rfl (.z (.indexAddr rfl rfl bK) (.z (.dT aP cV) (.go 6 rfl (.lW (.ne rfl rfl) (fun aK=>?_) fun aK=>?_))))
     · exact .ae 7 rfl (aL Tryz.func133 rfl rfl (aj.mk ⟨(congrArg (Value.int .i64) (by first|exact ab.OT al a7 aK|exact ab.OU al (by omega)|(exfalso; omega))),bf⟩))
     exact .go 5 rfl (.z (.bZ (((k+1:Nat):Int)) rfl rfl (by omega)) (.ae 2 rfl ((bV _ _ _ ⟨(k+1:Nat),rfl,rfl,bf,(by omega),f1,(by first|exact ab.XU al a7 (by simpa using aK)|(exfalso; omega))⟩ (by omega)).sub ⟨rfl,rfl,rfl,rfl,trivial⟩)))
   exact .ae 9 rfl (aL Tryz.func133 rfl rfl (aj.mk ⟨(congrArg (Value.int .i64) (by first|exact ab.OT al a7 aK|exact ab.OU al (by omega)|(exfalso; omega))),bf⟩))
theorem aeT {w0:World}  {a:Key} {b:Key}  :
 Calls Tryz.prog 149 #[.agg #[.int .i64 a.len,aH a.text],.agg #[.int .i64 b.len,aH b.text]] w0 (aj fun aD ai=>aD=.int .i64 (ab.Fu a b)∧Ext w0 ai):=by
 have ba:Ext w0 w0:=Mod.refl _ _;refine bS Tryz.func149 rfl Tryz.ntmps149 rfl (.go 2 rfl (.ac (.box [.int .i64 a.len,aH a.text] rfl rfl fun ai aG au aJ c9 a1=>have bf:=ba.ext au;have dW:=au.size;.ac (.box [.int .i64 b.len,aH b.text] rfl rfl fun aZ aN ax aK eY bH=>have f1:=a1.ext ax;have bk:=bf.ext ax;have e7:=ax.size;.ae 3 rfl (fx (fun i=>Nat.beq i 4 || Nat.beq i 9 || Nat.beq i 10 || Nat.beq i 11) 13 (fun ah=>Mod (b5 0) aZ ah) mixed (by kernel_rfl) fun bz aM=>have bD:=bk.ext aM;have hx:=aM.size;have jx:Mod (b5 0) aZ bz:=Mod.gW aM;⟨jx,?_⟩)))));rw [show List.range' 0 (Array.size _)=[0,1,2,3,4,5,6,7,8,9,10,11,12] from rfl];refine .z rfl (.fieldAddr vn rfl) (.z rfl (.cT aP rfl (fun _ an=>(f1.cell 0 _ rfl).bt an (by omega))) (.z rfl (.fieldAddr vn rfl) (.z rfl (.cT aP rfl (fun _ an=>(bH.cell 0 _ rfl).bt an (by omega))) (.ac rfl (.aE TK rfl (T0 (w0:=bz)  (a.len) (b.len) ) ?_)))));rintro _ cj ⟨rfl,aW⟩;have ek:=bD.ext aW;have je:=aW.size;have kx:=jx.ext aW;refine ⟨.inr kx,.z rfl (.fieldAddr zL rfl) (.z rfl (.cT dp rfl (fun _ an=>(f1.cell 1 _ rfl).bt an (by omega))) (.z rfl (.fieldAddr zL rfl) (.z rfl (.cT dp rfl (fun _ an=>(bH.cell 1 _ rfl).bt an (by omega))) (.ac rfl (.aE K_ rfl (Lf (w0:=cj)  a.text b.text ) ?_)))))⟩;rintro _ cM ⟨rfl,bh,n5⟩;have fq:=ek.ext bh;have lv:=bh.size;have mg:=kx.ext bh;refine ⟨.inr mg,.ac rfl (.buildSlice [(.int .i64 ((ab.nR a.len b.len)):Value),(.int .i64 ((Lib.compareBytes a.text b.text)):Value)] Tryz.underlying57 aP rfl rfl rfl (by decide) fun de bn bQ aV gh cE=>have h9:=fq.ext bQ;have o6:=bQ.size;have k9:=mg.ext bQ;⟨.inr k9,(have b6:=ak.eP (enc:=aA.encI) cE ([(ab.nR a.len b.len),(Lib.compareBytes a.text b.text)]:List Int) 2 rfl rfl (by unfold maxLen; omega);.ac rfl (.aE TJ rfl (T1 (w0:=de) (vals:=[(ab.nR a.len b.len),(Lib.compareBytes a.text b.text)])  ((b6).b0 (Nat.zero_le _) (by omega))) ?_))⟩)⟩;rintro _ dv ⟨rfl,b3⟩;have jm:=h9.ext b3;have qp:=b3.size;have lY:=k9.ext b3;exact ⟨.inr lY,.gd 1 rfl (.nil (aL Tryz.func149 rfl rfl (aj.mk ⟨(congrArg (Value.int .i64) (by rfl)),jm⟩)))⟩
theorem T2 {w0:World}  {a:Key} {b:Key}  :
 Calls Tryz.prog 105 #[.agg #[.int .i64 a.len,aH a.text],.agg #[.int .i64 b.len,aH b.text]] w0 (aj fun aD ai=>(∃ b4:Bool,b4=(ab.nn a b)∧aD=.bool b4)∧Ext w0 ai):=by
 have ba:Ext w0 w0:=Mod.refl _ _;refine bS Tryz.func105 rfl Tryz.ntmps105 rfl (.go 2 rfl (.ac (.box [.int .i64 a.len,aH a.text] rfl rfl fun ai aG au aJ c9 a1=>have bf:=ba.ext au;have dW:=au.size;.ac (.box [.int .i64 b.len,aH b.text] rfl rfl fun aZ aN ax aK eY bH=>have f1:=a1.ext ax;have bk:=bf.ext ax;have e7:=ax.size;.go 4 rfl (.z (.c4 kN rfl (fun _ e=>e▸f1.row) rfl) ?_)))));refine .z (.c4 kN rfl (fun _ e=>e▸bH.row) rfl) ?_;refine .ac (.aE aer rfl (aeT (w0:=aZ) (a:=a) (b:=b)  ) ?_);rintro _ bz ⟨rfl,aM⟩;have bD:=bk.ext aM;have hx:=aM.size;exact .ev (.lt rfl rfl) fun bn aV=>.ae 2 rfl (aL Tryz.func105 rfl rfl (aj.mk ⟨⟨_,(by first|simp only [ab.nn, *]|(exfalso; omega)),rfl⟩,bD⟩))
theorem zO {p:Prop} (h:p:=by first|exact ab.O2 (by omega)|exact ab.O3 (by omega) a7 (by simp only [ab.uY]; simp; omega)|exact ab.O4 (by omega) ao aS a7 cY (by assumption)|exact ab.O5 (by omega) ao aB (by omega)|(exfalso; omega)):p:=h
theorem r7 {p:Prop} (h:p:=by omega):p:=h
theorem aeU {p:Prop} (h:p:=by simp only [ab.uY]; simp; omega):p:=h
theorem aeV {w0:World}  {iH:Value} {cuts:List Key} (mh:ak g' w0 (aR 0 w0.heap.size) iH cuts) (hk:∀ k∈cuts,k.text.length≤9223372036854775807) :
 Calls Tryz.prog 55 #[iH] w0 (aj fun aD ai=>aD=.int .i64 (ab.sw cuts)∧Ext w0 ai):=by
 have ba:Ext w0 w0:=Mod.refl _ _;have fg:=mh.le;refine bS Tryz.func55 rfl Tryz.ntmps55 rfl (.go 8 rfl (.z (.ca Tryz.underlying24 (mh) rfl) (.aX (.gt rfl rfl) (fun aJ=>?_) fun aJ=>?_)))
 · exact .ae 6 rfl (aL Tryz.func55 rfl rfl (aj.mk ⟨(congrArg (Value.int .i64) zO),ba⟩))
 refine .go 7 rfl (.z (.ca Tryz.underlying24 (mh) rfl) (.ae 3 rfl (dU (I:=fun m E W=>∃ (k:Nat),E=[(0,iH),(10,iH),(11,.int .i64 (((cuts.length:Nat):Int))),(12,.int .i64 (((k:Nat):Int)))]∧m=cuts.length-k∧Ext w0 W∧w0.heap.size≤W.heap.size∧ak g' W (aR 0 w0.heap.size) iH cuts∧((cuts.take k).all ab.uY=true)) ?_ ?_)))
 · refine ⟨_,_,⟨(0:Nat),rfl,rfl,ba,Nat.le_refl _,mh,(by rfl)⟩,⟨rfl,rfl,rfl,rfl,trivial⟩⟩
 · rintro _ _ ai ⟨k,rfl,rfl,bf,dW,f1,al⟩ bV;refine .go 2 rfl (.aX (.lt rfl rfl) (fun aK=>?_) fun aK=>?_)
   · refine .ae 2 rfl ?_;obtain ⟨aw,bn,fE,a7,bK,b6,iR,cV⟩:=ak.ft (P:=Tryz.prog) f1 Tryz.underlying24 kN sv (k:=.i64) (n:=((k:Nat):Int)) (k) r7 aU;refine .go 6 rfl (.z (.indexAddr rfl rfl bK) (.z (.c4 kN rfl (fun _ e=>e▸cV) rfl) ?_));refine .ac (.alloc kN fun aZ bj au aV c9 a1=>have f2:=f1.ext au;have bk:=bf.ext au;have e7:=au.size;.ac (.st kN a1 fun bz ax bH=>?_));replace bH:ez bz bj [.int .i64 aw.len,aH aw.text] 110:=bH;have f3:=f2.bt ax (by omega);have bD:=Ext.hq bk ax (by omega);have hx:=ax.size;refine .go 3 rfl (.a_ zL dp bH (.ac (.aE He rfl (Hk (w0:=bz)  aw.text (by exact hk _ (List.mem_of_getElem? (by assumption)))) ?_)));rintro _ cj ⟨rfl,aM,n5⟩;have f4:=f3.ext aM;have f5:=bH.ext aM;have ek:=bD.ext aM;have je:=aM.size;refine .go 4 rfl (.a_ vn aP f5 (.aX (.lt rfl rfl) (fun bc=>?_) fun bc=>?_))
     · exact .ae 19 rfl (aL Tryz.func55 rfl rfl (aj.mk ⟨(congrArg (Value.int .i64) zO),ek⟩))
     refine .go 1 rfl (.a_ vn aP f5 (.aX (.gt rfl rfl) (fun cy=>?_) fun cy=>?_))
     · exact .ae 15 rfl (aL Tryz.func55 rfl rfl (aj.mk ⟨(congrArg (Value.int .i64) zO),ek⟩))
     refine .go 3 rfl (.aX (.lt rfl rfl) (fun ck=>?_) fun ck=>?_)
     · exact .ae 11 rfl (aL Tryz.func55 rfl rfl (aj.mk ⟨(congrArg (Value.int .i64) zO),ek⟩))
     refine .go 3 rfl (.aX (.gt rfl rfl) (fun c'=>?_) fun c'=>?_)
     · exact .ae 7 rfl (aL Tryz.func55 rfl rfl (aj.mk ⟨(congrArg (Value.int .i64) zO),ek⟩))
     exact .go 6 rfl (.z (.bZ (((k+1:Nat):Int)) rfl rfl r7) (.ae 2 rfl ((bV _ _ _ ⟨(k+1:Nat),rfl,rfl,ek,r7,f4,(by first|exact ab.y1 al a7 aeU|(exfalso; omega))⟩ r7).sub ⟨rfl,rfl,rfl,rfl,trivial⟩)))
   refine .ae 10 rfl (dU (I:=fun m E W=>∃ (j:Nat),E=[(0,iH),(6,.int .i64 (((j:Nat):Int)))]∧m=cuts.length-j∧Ext w0 W∧ai.heap.size≤W.heap.size∧ak g' W (aR 0 w0.heap.size) iH cuts∧(1≤j)∧(ab.p7 (cuts.take j)=true)) ?_ ?_)
   · refine ⟨_,_,⟨(1:Nat),rfl,rfl,bf,Nat.le_refl _,f1,r7,(by exact ab.OY _)⟩,⟨rfl,rfl,trivial⟩⟩
   · rintro _ _ aZ ⟨j,rfl,rfl,bk,e7,f2,aS,aB⟩ fk;have ao:=ab.Fs al (by omega);refine .go 5 rfl (.z (.ca Tryz.underlying24 (f2) rfl) (.aX (.lt rfl rfl) (fun aV=>?_) fun aV=>?_))
     · refine .ae 6 rfl (fx (fun i=>Nat.beq i 9) 11 (fun ah=>Mod (b5 0) aZ ah) mixed (by kernel_rfl) fun bz au=>have f3:=f2.ext au;have bD:=bk.ext au;have hx:=au.size;have jx:Mod (b5 0) aZ bz:=Mod.gW au;⟨jx,?_⟩);rw [show List.range' 0 (Array.size _)=[0,1,2,3,4,5,6,7,8,9,10] from rfl];refine .gd 2 rfl (.z rfl (.il ((((j:Nat):Int)-1)) rfl rfl r7) ?_);obtain ⟨aw,bj,fE,a7,bK,b6,iR,cV⟩:=ak.ft (P:=Tryz.prog) f2 Tryz.underlying24 kN sv (k:=.i64) (n:=(((j:Nat):Int)-1)) ((j-1)) r7 aU;refine .z rfl (.indexAddr rfl rfl bK) (.z rfl (.c4 kN rfl (fun _ an=>cV.bt an r7) rfl) ?_);obtain ⟨x2,cR,iv,cY,c_,dG,qo,eL⟩:=ak.ft (P:=Tryz.prog) f2 Tryz.underlying24 kN sv (k:=.i64) (n:=((j:Nat):Int)) (j) r7 aU;refine .gd 2 rfl (.z rfl (.indexAddr rfl rfl c_) (.z rfl (.c4 kN rfl (fun _ an=>eL.bt an r7) rfl) (.ac rfl (.aE TI rfl (T2 (w0:=bz) (a:=aw) (b:=x2)  ) ?_))));rintro _ cj ⟨⟨c8,bc,rfl⟩,ax⟩;have f4:=f3.ext ax;have ek:=bD.ext ax;have je:=ax.size;have kx:=jx.ext ax;refine ⟨.inr kx,?_⟩;cases c8
       case true =>
        replace bc:=bc.symm;exact .z rfl (.not rfl) (.nil (.go 5 rfl (.z (.bZ (((j+1:Nat):Int)) rfl rfl r7) (.ae 2 rfl ((fk _ _ _ ⟨(j+1:Nat),rfl,rfl,ek,r7,f4,(by first|omega|(exfalso; omega)),(by first|exact ab.O1 aB aS a7 cY (by assumption)|(exfalso; omega))⟩ r7).sub ⟨rfl,rfl,trivial⟩)))))
       replace bc:=bc.symm;exact .z rfl (.not rfl) (.nil (.ae 5 rfl (aL Tryz.func55 rfl rfl (aj.mk ⟨(congrArg (Value.int .i64) zO),ek⟩))))
     exact .ae 7 rfl (aL Tryz.func55 rfl rfl (aj.mk ⟨(congrArg (Value.int .i64) zO),bk⟩))
theorem aeW {w0:World}  {iH:Value} {cuts:List Key} {k:Key} (mh:ak g' w0 (aR 0 w0.heap.size) iH cuts) :
 Calls Tryz.prog 166 #[iH,.agg #[.int .i64 k.len,aH k.text],.func (.func 105) #[] #[]] w0 (aj fun aD ai=>aD=.int .i64 (((ab.Je cuts k:Nat):Int))∧Ext w0 ai):=by
 have ba:Ext w0 w0:=Mod.refl _ _;have fg:=mh.le;refine bS Tryz.func166 rfl Tryz.ntmps166 rfl (.go 2 rfl (.ac (.box [.int .i64 k.len,aH k.text] rfl rfl fun ai aG au aJ c9 a1=>have f1:=mh.ext au;have bf:=ba.ext au;have dW:=au.size;.go 10 rfl (.z (.ca Tryz.underlying24 (f1) rfl) (.ae 3 rfl (dU (I:=fun m E W=>∃ (n:Nat) (j:Nat),E=[(2,.func (.func 105) #[] #[]),(4,ptr aG 0),(7,.int .i64 (((n:Nat):Int))),(10,iH),(11,.int .i64 (((cuts.length:Nat):Int))),(12,.int .i64 (((j:Nat):Int)))]∧m=cuts.length-j∧Ext w0 W∧ai.heap.size≤W.heap.size∧ez W aG [.int .i64 k.len,aH k.text] 110∧ak g' W (aR 0 w0.heap.size) iH cuts∧(n=((cuts.take j).filter fun c=>!ab.nn k c).length)∧(n≤j)) ?_ ?_))))))
 · refine ⟨_,_,⟨(0:Nat),(0:Nat),rfl,rfl,bf,Nat.le_refl _,a1,f1,(by rfl),(by omega)⟩,⟨rfl,rfl,rfl,rfl,rfl,rfl,trivial⟩⟩
 · rintro _ _ aZ ⟨n,j,rfl,rfl,bk,e7,f2,f3,al,aI⟩ bV;refine .go 2 rfl (.aX (.lt rfl rfl) (fun aK=>?_) fun aK=>?_)
   · refine .ae 2 rfl ?_;obtain ⟨aw,bn,fE,a7,bK,b6,iR,cV⟩:=ak.ft (P:=Tryz.prog) f3 Tryz.underlying24 kN sv (k:=.i64) (n:=((j:Nat):Int)) (j) (by omega) aU;refine .go 6 rfl (.z (.indexAddr rfl rfl bK) (.z (.c4 kN rfl (fun _ e=>e▸cV) rfl) ?_));refine .ac (.alloc kN fun bz bj ax aV eY bH=>have f4:=f2.ext ax;have f5:=f3.ext ax;have bD:=bk.ext ax;have hx:=ax.size;.ac (.st kN bH fun cj aM cE=>?_));replace cE:ez cj bj [.int .i64 aw.len,aH aw.text] 110:=cE;have f6:=f4.bt aM (by omega);have f7:=f5.bt aM (by omega);have ek:=Ext.hq bD aM (by omega);have je:=aM.size;refine .go 4 rfl (.z (.c4 kN rfl (fun _ e=>e▸f6.row) rfl) ?_);refine .z (.c4 kN rfl (fun _ e=>e▸cE.row) rfl) ?_;refine .ac (.call (first:=[]) (cap:=[]) TI rfl rfl (T2 (w0:=cj) (a:=k) (b:=aw)  ) ?_);rintro _ cM ⟨⟨cR,bc,rfl⟩,aW⟩;have f8:=f6.ext aW;have f9:=f7.ext aW;have fq:=ek.ext aW;have lv:=aW.size;cases cR
     case true =>
      replace bc:=bc.symm;exact .z (.not rfl) (.go 5 rfl (.z (.bZ (((j+1:Nat):Int)) rfl rfl (by omega)) (.ae 2 rfl ((bV _ _ _ ⟨(n:Nat),(j+1:Nat),rfl,rfl,fq,(by omega),f8,f9,(by first|(rw [ab.AQ a7 (by simp [*]),List.length_append,←al]; rfl)|(rw [ab.xo a7 (by simp [*])]; exact al)|(exfalso; omega)),(by first|omega|(exfalso; omega))⟩ (by omega)).sub ⟨rfl,rfl,rfl,rfl,rfl,rfl,trivial⟩))))
     replace bc:=bc.symm;exact .z (.not rfl) (.go 4 rfl (.z (.bZ (((n+1:Nat):Int)) rfl rfl (by omega)) (.go 4 rfl (.z (.bZ (((j+1:Nat):Int)) rfl rfl (by omega)) (.ae 2 rfl ((bV _ _ _ ⟨(n+1:Nat),(j+1:Nat),rfl,rfl,fq,(by omega),f8,f9,(by first|(rw [ab.AQ a7 (by simp [*]),List.length_append,←al]; rfl)|(rw [ab.xo a7 (by simp [*])]; exact al)|(exfalso; omega)),(by first|omega|(exfalso; omega))⟩ (by omega)).sub ⟨rfl,rfl,rfl,rfl,rfl,rfl,trivial⟩))))))
   exact .ae 9 rfl (aL Tryz.func166 rfl rfl (aj.mk ⟨(congrArg (Value.int .i64) (by first|rw [al,ab.Jf (by omega)]; rfl|(exfalso; omega))),bk⟩))
theorem aeX {w0:World}  {iH:Value} {cuts:List Key} (w:ag) (mh:ak g' w0 (aR 0 w0.heap.size) iH cuts) (T3:w.length≤9223372036854775807) :
 Calls Tryz.prog 124 #[iH,aH w] w0 (aj fun aD ai=>aD=.int .i64 (ab.ofM cuts w)∧Ext w0 ai):=by
 have ba:Ext w0 w0:=Mod.refl _ _;have fg:=mh.le;refine bS Tryz.func124 rfl Tryz.ntmps124 rfl (.go 8 rfl (.ac (.aE K9 rfl (Lg (w0:=w0)  w (by exact T3)) ?_)));rintro _ ai ⟨⟨aG,aJ,rfl⟩,au⟩;have f1:=mh.ext au;have bf:=ba.ext au;have dW:=au.size;cases aG
 case true =>
  replace aJ:=aJ.symm;refine .z (.not rfl) (.go 7 rfl (.ac (.aE He rfl (Hk (w0:=ai)  w (by exact T3)) ?_)));rintro _ aZ ⟨rfl,ax,n5⟩;have f2:=f1.ext ax;have bk:=bf.ext ax;have e7:=ax.size;refine .go 1 rfl (.z (.build (vs:=#[(0,(.int .i64 ((ab.hQ w)):Value)),(1,aH w)]) (v:=.agg #[.int .i64 ((ab.hQ w)),aH w]) rfl (fun _=>by kernel_rfl)) (.ac (.aE aes rfl (aeW (w0:=aZ) (cuts:=cuts) (k:=(Key.mk ((ab.hQ w)) w))  ((f2).b0 (Nat.zero_le _) (by omega))) ?_)));rintro _ bz ⟨rfl,aM⟩;have bD:=bk.ext aM;have hx:=aM.size;exact .ae 2 rfl (aL Tryz.func124 rfl rfl (aj.mk ⟨(congrArg (Value.int .i64) (by first|simp only [ab.ofM, *]; rfl|(exfalso; omega))),bD⟩))
 replace aJ:=aJ.symm;exact .z (.not rfl) (.ae 6 rfl (aL Tryz.func124 rfl rfl (aj.mk ⟨(congrArg (Value.int .i64) (by first|simp only [ab.ofM, *]; rfl|(exfalso; omega))),bf⟩)))
theorem Lk {p:Prop} (h:p:=by first|(rw [ab.AQ a7 (ab.OV aK aV),al])|(rw [ab.xo a7 (ab.OX aV)]; exact al)|(rw [ab.xo a7 (ab.OW aK)]; exact al)|(exfalso; omega)):p:=h
theorem aeY {w0:World}  {iH:Value} {cuts:List Key} {j0:Value} {words:List ag} (shard:Int) (mh:ak g' w0 (aR 0 w0.heap.size) iH cuts) (k8:ak cp w0 (aR 0 w0.heap.size) j0 words) (ya:bp shard) (c7:ab.uW words) (hlen:words.length≤1000000) :
 Calls Tryz.prog 79 #[iH,j0,.int .i64 shard] w0 (aj fun aD ai=>(∃ cZ,Acc cp 9 1 ai cZ aD (ab.p8 cuts words shard)∧(cZ=0∨w0.heap.size < cZ))∧Ext w0 ai):=by
 have ba:Ext w0 w0:=Mod.refl _ _;have fg:=mh.le;have lx:=k8.le;refine bS Tryz.func79 rfl Tryz.ntmps79 rfl (.go 12 rfl (.z (.ca Tryz.underlying23 (k8) rfl) (.ae 3 rfl (dU (I:=fun m E W=>∃ (fQ:Value) (fN:Nat) (l:List ag) (k:Nat),E=[(0,iH),(2,.int .i64 shard),(7,fQ),(11,j0),(12,.int .i64 (((words.length:Nat):Int))),(13,.int .i64 (((k:Nat):Int)))]∧m=words.length-k∧Ext w0 W∧w0.heap.size≤W.heap.size∧Acc cp 9 1 W fN fQ l∧(fN=0∨w0.heap.size < fN)∧ak g' W (aR 0 w0.heap.size) iH cuts∧ak cp W (aR 0 w0.heap.size) j0 words∧(l=(words.take k).filter (ab.sx cuts shard))∧(l.length≤k)) ?_ ?_))))
 · refine ⟨_,_,⟨(.slice none 0 0:Value),(0:Nat),([]:List ag),(0:Nat),rfl,rfl,ba,Nat.le_refl _,Acc.nil,(by omega),mh,k8,(by rfl),(by exact Nat.zero_le _)⟩,⟨rfl,rfl,rfl,rfl,rfl,rfl,trivial⟩⟩
 · rintro _ _ ai ⟨fQ,fN,l,k,rfl,rfl,bf,dW,b7,cf,f1,f2,al,aI⟩ bV;refine .go 2 rfl (.aX (.lt rfl rfl) (fun aJ=>?_) fun aJ=>?_)
   · refine .ae 2 rfl ?_;obtain ⟨aw,aN,fE,a7,bK,b6,iR,cV⟩:=ak.ft (P:=Tryz.prog) f2 Tryz.underlying23 dp hr (k:=.i64) (n:=((k:Nat):Int)) (k) (by omega) aU;refine .go 6 rfl (.z (.indexAddr rfl rfl bK) (.z (.dT dp cV) (.go 6 rfl (.ac (.aE aei rfl (aeX (w0:=ai) (cuts:=cuts) aw ((f1).b0 (Nat.zero_le _) (by omega)) (by exact c7.at (by assumption))) ?_)))));rintro _ aZ ⟨rfl,au⟩;have dG:=b7.lt;have f3:=b7.ext au;have f4:=f1.ext au;have f5:=f2.ext au;have bk:=bf.ext au;have e7:=au.size;refine .go 5 rfl (.aX (.ge rfl rfl) (fun aK=>?_) fun aK=>?_)
     · refine .go 3 rfl (.h8 (.eq rfl rfl) (fun aV=>?_) fun aV=>?_)
       · exact .go 6 rfl (.ac (.buildSlice [aH aw] Tryz.underlying23 dp rfl rfl rfl (by decide) fun bz cR ax bc c9 a1=>have e1:=f3.lt;have f6:=f3.ext ax;have f7:=f4.ext ax;have f8:=f5.ext ax;have bD:=bk.ext ax;have hx:=ax.size;have f':=ak.eP (enc:=cp) a1 ([aw]:List ag) 1 rfl rfl (by unfold maxLen; omega);have hU:=f6.lt;.ac (.append f6 Tryz.underlying23 dp rfl hr xm rfl rfl (f') ol gA fun v1 g1 cj dH aM eA eY=>have h4:=f6.lt;have f9:=f7.bt aM (by omega);have f10:=f8.bt aM (by omega);have ek:=Ext.hq bD aM (by omega);have je:=aM.size;.go 4 rfl (.z (.bZ (((k+1:Nat):Int)) rfl rfl (by omega)) (.ae 2 rfl ((bV _ _ _ ⟨(v1:Value),(g1:Nat),((l++[aw]):List ag),(k+1:Nat),rfl,rfl,ek,(by omega),dH,(by omega),f9,f10,Lk,(by first|omega|(simp only [List.length_append,List.length_cons,List.length_nil]; omega)|(exfalso; omega))⟩ (by omega)).sub ⟨rfl,rfl,rfl,rfl,rfl,rfl,trivial⟩))))))
       exact .go 6 rfl (.z (.bZ (((k+1:Nat):Int)) rfl rfl (by omega)) (.ae 2 rfl ((bV _ _ _ ⟨(fQ:Value),(fN:Nat),(l:List ag),(k+1:Nat),rfl,rfl,bk,(by omega),f3,(by omega),f4,f5,Lk,(by first|omega|(simp only [List.length_append,List.length_cons,List.length_nil]; omega)|(exfalso; omega))⟩ (by omega)).sub ⟨rfl,rfl,rfl,rfl,rfl,rfl,trivial⟩)))
     exact .go 10 rfl (.z (.bZ (((k+1:Nat):Int)) rfl rfl (by omega)) (.ae 2 rfl ((bV _ _ _ ⟨(fQ:Value),(fN:Nat),(l:List ag),(k+1:Nat),rfl,rfl,bk,(by omega),f3,(by omega),f4,f5,Lk,(by first|omega|(simp only [List.length_append,List.length_cons,List.length_nil]; omega)|(exfalso; omega))⟩ (by omega)).sub ⟨rfl,rfl,rfl,rfl,rfl,rfl,trivial⟩)))
   exact .ae 9 rfl (aL Tryz.func79 rfl rfl (aj.mk ⟨⟨_,Acc.cast b7 (by first|rw [al,ab.Jf (by omega)]; rfl|(exfalso; omega)),by omega⟩,bf⟩))
theorem sW {w0:World}  (x:Int) (least:Int) (CB:Int) (aeZ:bp x) (akA:bp least) (akB:bp CB) :
 Calls Tryz.prog 56 #[.int .i64 x,.int .i64 least,.int .i64 CB] w0 (aj fun aD ai=>(∃ b4:Bool,b4=(ab.within x least CB)∧aD=.bool b4)∧Ext w0 ai):=by
 have ba:Ext w0 w0:=Mod.refl _ _;refine bS Tryz.func56 rfl Tryz.ntmps56 rfl (.go 8 rfl (.aX (.ge rfl rfl) (fun aJ=>?_) fun aJ=>?_))
 · exact .go 3 rfl (.ev (.le rfl rfl) fun aN aK=>.ae 3 rfl (aL Tryz.func56 rfl rfl (aj.mk ⟨⟨_,(by first|simp only [ab.within, *]; simp|(exfalso; omega)),rfl⟩,ba⟩)))
 exact .ae 7 rfl (aL Tryz.func56 rfl rfl (aj.mk ⟨⟨_,(by first|simp only [ab.within, *]; simp|(exfalso; omega)),rfl⟩,ba⟩))
theorem DK {p:Prop} (h:p:=by simp only [ab.Fw]; simp only [*,Bool.and_true,Bool.and_false,Bool.true_and,Bool.false_and]):p:=h
theorem Ll {p:Prop} (h:p:=by simp only [ab.Fv]; simp only [*,Bool.and_true,Bool.and_false,Bool.true_and,Bool.false_and]):p:=h
theorem DL {p:Prop} (h:p:=by first|simp [ab.may, *]|(exfalso; omega)):p:=h
theorem T4 {p:Prop} (h:p:=by simp only [ab.CC]; simp only [*,Bool.and_true,Bool.and_false,Bool.true_and,Bool.false_and]):p:=h
theorem Lm {w0:World}  {c:b1} {dh:Value} {di:Value} (fh:ak cp w0 (aR 0 w0.heap.size) dh c.words) (fi:ak g' w0 (aR 0 w0.heap.size) di c.cuts) (bE:b1.Ok c) :
 Calls Tryz.prog 23 #[.agg #[dh,di,.int .i64 c.workers,.int .i64 c.db,.int .i64 c.dA,.int .i64 c.batch,.int .i64 c.dB,.int .i64 c.dC,.int .i64 c.first,.int .i64 c.cap,.int .i64 c.dD,.int .i64 c.dE]] w0 (aj fun aD ai=>(∃ b4:Bool,b4=(ab.may c)∧aD=.bool b4)∧Ext w0 ai):=by
 have ba:Ext w0 w0:=Mod.refl _ _;have fg:=fh.le;have lx:=fi.le;have r8:=bE.workers;have p6:=bE.db;have r9:=bE.dA;have r_:=bE.batch;have r':=bE.dB;have sa:=bE.dC;have sb:=bE.first;have sc:=bE.cap;have sd:=bE.dD;have se:=bE.dE;refine bS Tryz.func23 rfl Tryz.ntmps23 rfl (.go 2 rfl (.ac (.box [dh,di,.int .i64 c.workers,.int .i64 c.db,.int .i64 c.dA,.int .i64 c.batch,.int .i64 c.dB,.int .i64 c.dC,.int .i64 c.first,.int .i64 c.cap,.int .i64 c.dD,.int .i64 c.dE] rfl rfl fun ai aG au aJ c9 a1=>have f1:=fh.ext au;have f2:=fi.ext au;have bf:=ba.ext au;have dW:=au.size;.go 5 rfl (.a_ BF n3 a1 (.ac (.aE TE rfl (TY (w0:=ai) (words:=c.words)  ((f1).b0 (Nat.zero_le _) (by omega)) (by exact bE.words)) ?_))))));rintro _ aZ ⟨rfl,ax⟩;have f4:=f2.ext ax;have f5:=a1.ext ax;have bk:=bf.ext ax;have e7:=ax.size;have:=ab.uX c.words;refine .lW (.ne rfl rfl) (fun aK=>?_) fun aK=>?_
 · exact .ae 12 rfl (aL Tryz.func23 rfl rfl (aj.mk ⟨⟨_,DL,rfl⟩,bk⟩))
 refine .go 1 rfl (.a_ tU tT f5 (.ac (.aE ad' rfl (aeV (w0:=aZ) (cuts:=c.cuts)  ((f4).b0 (Nat.zero_le _) (by omega)) (by exact fun k hk=>(bE.cuts k hk).2)) ?_)));rintro _ bz ⟨rfl,aM⟩;have f8:=f5.ext aM;have bD:=bk.ext aM;have hx:=aM.size;refine .lW (.ne rfl rfl) (fun aV=>?_) fun aV=>?_
 · exact .ae 7 rfl (aL Tryz.func23 rfl rfl (aj.mk ⟨⟨_,DL,rfl⟩,bD⟩))
 refine .ae 5 rfl (IK (J:=fun E W=>∃ (fb:Bool),E=[(1,ptr aG 0),(3,.bool fb)]∧Ext bz W∧(fb=ab.CC c)) ?_ ?_)
 · rintro _ cj ⟨fb,rfl,aW,Hn⟩;have f9:=f8.ext aW;have ek:=bD.ext aW;have je:=aW.size;refine .ae 1 rfl (IK (J:=fun E W=>∃ (fT:Bool),E=[(1,ptr aG 0),(3,.bool fb),(4,.bool fT)]∧Ext cj W∧(fT=ab.Fv c)) ?_ ?_)
   · rintro _ cM ⟨fT,rfl,bh,Ho⟩;have f12:=f9.ext bh;have fq:=ek.ext bh;have lv:=bh.size;refine .ae 1 rfl (IK (J:=fun E W=>∃ (gK:Bool),E=[(3,.bool fb),(4,.bool fT),(5,.bool gK)]∧Ext cM W∧(gK=ab.Fw c)) ?_ ?_)
     · rintro _ de ⟨gK,rfl,bQ,akC⟩;have h9:=fq.ext bQ;have o6:=bQ.size;refine .go 4 rfl ?_;cases fb
       case true =>
        replace Hn:=Hn.symm;refine .go 3 rfl ?_;cases fT
        case true =>
         replace Ho:=Ho.symm;exact .ae 4 rfl (aL Tryz.func23 rfl rfl (aj.mk ⟨⟨_,DL,rfl⟩,h9⟩))
        replace Ho:=Ho.symm;exact .ae 4 rfl (aL Tryz.func23 rfl rfl (aj.mk ⟨⟨_,DL,rfl⟩,h9⟩))
       replace Hn:=Hn.symm;exact .ae 7 rfl (aL Tryz.func23 rfl rfl (aj.mk ⟨⟨_,DL,rfl⟩,h9⟩))
     · intro DM;have DN:Ext cM cM:=Mod.refl _ _;refine .go 1 rfl (.a_ Tv aP f12 (.ac (.aE sS rfl (sW (w0:=cM)  (c.dB) (1) (1000) cu cu cu) ?_)));rintro _ dv ⟨⟨bj,bc,rfl⟩,b3⟩;have f15:=f12.ext b3;have h9:=fq.ext b3;have cy:=DN.ext b3;have o6:=b3.size;refine .go 1 rfl ?_;cases bj
       case true =>
        replace bc:=bc.symm;have:=ab.mw bc;refine .a_ Tw aP f15 (.ac (.aE sS rfl (sW (w0:=dv)  (c.dC) (1) (1000) cu cu cu) ?_));rintro _ en ⟨⟨cR,ck,rfl⟩,cF⟩;have f18:=f15.ext cF;have jm:=h9.ext cF;have c':=cy.ext cF;have qp:=cF.size;refine .go 2 rfl ?_;cases cR
        case true =>
         replace ck:=ck.symm;have:=ab.mw ck;refine .a_ G9 aP f18 (.ac (.aE sS rfl (sW (w0:=en)  (c.first) (1) (10) cu cu cu) ?_));rintro _ eE ⟨⟨c8,dq,rfl⟩,cG⟩;have f21:=f18.ext cG;have mW:=jm.ext cG;have e8:=c'.ext cG;have wL:=cG.size;refine .go 2 rfl ?_;cases c8
         case true =>
          replace dq:=dq.symm;have:=ab.mw dq;refine .a_ Tx aP f21 (.a_ G9 aP f21 (.ac (.aE sS rfl (sW (w0:=eE)  (c.cap) (c.first) (50) cu cu cu) ?_)));rintro _ eO ⟨⟨hy,gn,rfl⟩,cX⟩;have f24:=f21.ext cX;have sX:=mW.ext cX;have mE:=e8.ext cX;have DO:=cX.size;refine .go 2 rfl ?_;cases hy
          case true =>
           replace gn:=gn.symm;have:=ab.mw gn;refine .a_ Ty aP f24 (.ac (.aE sS rfl (sW (w0:=eO)  (c.dD) (0) (10) cu cu cu) ?_));rintro _ gi ⟨⟨h5,mX,rfl⟩,dV⟩;have tY:=sX.ext dV;have BO:=mE.ext dV;have DP:=dV.size;exact .ae 3 rfl ((DM _ _ ⟨h5,rfl,BO,DK⟩).sub ⟨rfl,rfl,rfl,trivial⟩)
          replace gn:=gn.symm;have:=ab.ow gn;exact .ae 6 rfl ((DM _ _ ⟨false,rfl,mE,DK⟩).sub ⟨rfl,rfl,rfl,trivial⟩)
         replace dq:=dq.symm;have:=ab.ow dq;exact .ae 13 rfl ((DM _ _ ⟨false,rfl,e8,DK⟩).sub ⟨rfl,rfl,rfl,trivial⟩)
        replace ck:=ck.symm;have:=ab.ow ck;exact .ae 18 rfl ((DM _ _ ⟨false,rfl,c',DK⟩).sub ⟨rfl,rfl,rfl,trivial⟩)
       replace bc:=bc.symm;have:=ab.ow bc;exact .ae 23 rfl ((DM _ _ ⟨false,rfl,cy,DK⟩).sub ⟨rfl,rfl,rfl,trivial⟩)
   · intro Ln;have DN:Ext cj cj:=Mod.refl _ _;refine .go 1 rfl (.a_ Tt aP f9 (.ac (.aE sS rfl (sW (w0:=cj)  (c.dA) (1) (4) cu cu cu) ?_)));rintro _ de ⟨⟨bj,bc,rfl⟩,bQ⟩;have f12:=f9.ext bQ;have fq:=ek.ext bQ;have cy:=DN.ext bQ;have lv:=bQ.size;refine .go 1 rfl ?_;cases bj
     case true =>
      replace bc:=bc.symm;have:=ab.mw bc;refine .a_ Tu aP f12 (.ac (.aE sS rfl (sW (w0:=de)  (c.batch) (1) (5) cu cu cu) ?_));rintro _ dv ⟨⟨cR,ck,rfl⟩,b3⟩;have f15:=f12.ext b3;have h9:=fq.ext b3;have c':=cy.ext b3;have o6:=b3.size;refine .go 2 rfl ?_;cases cR
      case true =>
       replace ck:=ck.symm;have:=ab.mw ck;refine .a_ Tz aP f15 (.ac (.aE sS rfl (sW (w0:=dv)  (c.dE) (8) (64) cu cu cu) ?_));rintro _ en ⟨⟨c8,dq,rfl⟩,cF⟩;have jm:=h9.ext cF;have e8:=c'.ext cF;have qp:=cF.size;exact .ae 3 rfl ((Ln _ _ ⟨c8,rfl,e8,Ll⟩).sub ⟨rfl,rfl,rfl,trivial⟩)
      replace ck:=ck.symm;have:=ab.ow ck;exact .ae 6 rfl ((Ln _ _ ⟨false,rfl,c',Ll⟩).sub ⟨rfl,rfl,rfl,trivial⟩)
     replace bc:=bc.symm;have:=ab.ow bc;exact .ae 11 rfl ((Ln _ _ ⟨false,rfl,cy,Ll⟩).sub ⟨rfl,rfl,rfl,trivial⟩)
 · intro T5;have DN:Ext bz bz:=Mod.refl _ _;refine .go 1 rfl (.a_ wJ aP f8 (.ac (.aE sS rfl (sW (w0:=bz)  (c.workers) (1) (5) cu cu cu) ?_)));rintro _ cM ⟨⟨bj,bc,rfl⟩,bh⟩;have f11:=f8.ext bh;have ek:=bD.ext bh;have cy:=DN.ext bh;have je:=bh.size;refine .go 1 rfl ?_;cases bj
   case true =>
    replace bc:=bc.symm;have:=ab.mw bc;refine .a_ G8 aP f11 (.a_ wJ aP f11 (.z (.min rfl rfl) (.ac (.aE sS rfl (sW (w0:=cM)  (c.db) (1) ((min 3 c.workers)) cu cu cu) ?_))));rintro _ de ⟨⟨cR,ck,rfl⟩,bQ⟩;have fq:=ek.ext bQ;have c':=cy.ext bQ;have lv:=bQ.size;exact .ae 3 rfl ((T5 _ _ ⟨cR,rfl,c',T4⟩).sub ⟨rfl,rfl,trivial⟩)
   replace bc:=bc.symm;have:=ab.ow bc;exact .ae 9 rfl ((T5 _ _ ⟨false,rfl,cy,T4⟩).sub ⟨rfl,rfl,trivial⟩)
theorem Lo {w0:World}  {c:b1} {dh:Value} {di:Value} (fh:ak cp w0 (aR 0 w0.heap.size) dh c.words) (fi:ak g' w0 (aR 0 w0.heap.size) di c.cuts) (bE:b1.Ok c) :
 Calls Tryz.prog 57 #[.agg #[dh,di,.int .i64 c.workers,.int .i64 c.db,.int .i64 c.dA,.int .i64 c.batch,.int .i64 c.dB,.int .i64 c.dC,.int .i64 c.first,.int .i64 c.cap,.int .i64 c.dD,.int .i64 c.dE]] w0 (aj fun aD ai=>aD=.int .i64 (((ab.hs c:Nat):Int))∧Ext w0 ai):=by
 have ba:Ext w0 w0:=Mod.refl _ _;have fg:=fh.le;have lx:=fi.le;refine bS Tryz.func57 rfl Tryz.ntmps57 rfl (.go 2 rfl (.ac (.box [dh,di,.int .i64 c.workers,.int .i64 c.db,.int .i64 c.dA,.int .i64 c.batch,.int .i64 c.dB,.int .i64 c.dC,.int .i64 c.first,.int .i64 c.cap,.int .i64 c.dD,.int .i64 c.dE] rfl rfl fun ai aG au aJ c9 a1=>have f1:=fh.ext au;have f2:=fi.ext au;have bf:=ba.ext au;have dW:=au.size;.go 5 rfl (.z (.c4 jc rfl (fun _ e=>e▸a1.row) rfl) ?_))));refine .ac (.aE K6 rfl (Lm (w0:=ai) (c:=c)  ((f1).b0 (Nat.zero_le _) (by omega)) ((f2).b0 (Nat.zero_le _) (by omega)) (by first|assumption|exact ab.b1.l8 (by decide +kernel))) ?_);rintro _ aZ ⟨⟨aN,aK,rfl⟩,ax⟩;have f4:=f2.ext ax;have f5:=a1.ext ax;have bk:=bf.ext ax;have e7:=ax.size;cases aN
 case true =>
  replace aK:=aK.symm;have:=ab.tw aK;exact .z (.not rfl) (.go 5 rfl (.a_ tU tT f5 (.z (.ca Tryz.underlying24 (f4) rfl) (.z (.bZ (((c.cuts.length+1:Nat):Int)) rfl rfl (by omega)) (.ae 2 rfl (aL Tryz.func57 rfl rfl (aj.mk ⟨(congrArg (Value.int .i64) (by first|simp only [ab.hs, *]; rfl|(exfalso; omega))),bk⟩)))))))
 replace aK:=aK.symm;exact .z (.not rfl) (.ae 6 rfl (aL Tryz.func57 rfl rfl (aj.mk ⟨(congrArg (Value.int .i64) (by first|simp only [ab.hs, *]; rfl|(exfalso; omega))),bk⟩)))
theorem ae0 {w0:World}  {c:b1} {dh:Value} {di:Value} (shard:Int) (fh:ak cp w0 (aR 0 w0.heap.size) dh c.words) (fi:ak g' w0 (aR 0 w0.heap.size) di c.cuts) (bE:b1.Ok c) (ya:bp shard) :
 Calls Tryz.prog 59 #[.agg #[dh,di,.int .i64 c.workers,.int .i64 c.db,.int .i64 c.dA,.int .i64 c.batch,.int .i64 c.dB,.int .i64 c.dC,.int .i64 c.first,.int .i64 c.cap,.int .i64 c.dD,.int .i64 c.dE],.int .i64 shard] w0 (aj fun aD ai=>(∃ cZ,Acc aA.encI 3 1 ai cZ aD (ab.iA c shard)∧(cZ=0∨w0.heap.size < cZ))∧Ext w0 ai):=by
 have ba:Ext w0 w0:=Mod.refl _ _;have fg:=fh.le;have lx:=fi.le;have r8:=bE.workers;have p6:=bE.db;have r9:=bE.dA;have r_:=bE.batch;have r':=bE.dB;have sa:=bE.dC;have sb:=bE.first;have sc:=bE.cap;have sd:=bE.dD;have se:=bE.dE;refine bS Tryz.func59 rfl Tryz.ntmps59 rfl (.go 2 rfl (.ac (.box [dh,di,.int .i64 c.workers,.int .i64 c.db,.int .i64 c.dA,.int .i64 c.batch,.int .i64 c.dB,.int .i64 c.dC,.int .i64 c.first,.int .i64 c.cap,.int .i64 c.dD,.int .i64 c.dE] rfl rfl fun ai aG au aJ c9 a1=>have f1:=fh.ext au;have f2:=fi.ext au;have bf:=ba.ext au;have dW:=au.size;.go 6 rfl (.z (.c4 jc rfl (fun _ e=>e▸a1.row) rfl) ?_))));refine .ac (.aE K8 rfl (Lo (w0:=ai) (c:=c)  ((f1).b0 (Nat.zero_le _) (by omega)) ((f2).b0 (Nat.zero_le _) (by omega)) (by first|assumption|exact ab.b1.l8 (by decide +kernel))) ?_);rintro _ aZ ⟨rfl,ax⟩;have f3:=f1.ext ax;have f4:=f2.ext ax;have f5:=a1.ext ax;have bk:=bf.ext ax;have e7:=ax.size;have:=ab.qQ c;refine .z (.il (((((ab.hs c:Nat):Int))-1)) rfl rfl (by omega)) (.ac (.aE sS rfl (sW (w0:=aZ)  (shard) (0) (((((ab.hs c:Nat):Int))-1)) cu cu cu) ?_));rintro _ bz ⟨⟨aN,aK,rfl⟩,aM⟩;have f6:=f3.ext aM;have f7:=f4.ext aM;have f8:=f5.ext aM;have bD:=bk.ext aM;have hx:=aM.size;cases aN
 case true =>
  replace aK:=aK.symm;have:=ab.mw aK;refine .z (.not rfl) (.go 10 rfl (.a_ G8 aP f8 (.ae 3 rfl (dU (I:=fun m E W=>∃ (fQ:Value) (fN:Nat) (l:List Int) (j:Nat),E=[(1,.int .i64 shard),(2,ptr aG 0),(5,fQ),(14,.int .i64 c.db),(15,.int .i64 (((j:Nat):Int)))]∧m=c.db.toNat-j∧Ext w0 W∧bz.heap.size≤W.heap.size∧Acc aA.encI 3 1 W fN fQ l∧(fN=0∨w0.heap.size < fN)∧ez W aG [dh,di,.int .i64 c.workers,.int .i64 c.db,.int .i64 c.dA,.int .i64 c.batch,.int .i64 c.dB,.int .i64 c.dC,.int .i64 c.first,.int .i64 c.cap,.int .i64 c.dD,.int .i64 c.dE] 26∧ak cp W (aR 0 w0.heap.size) dh c.words∧ak g' W (aR 0 w0.heap.size) di c.cuts∧aG+1≠fN∧(l=(List.range j).map (fun j:Nat=>1+(shard+(j:Int)) % c.workers))∧(l.length=j)∧(j≤c.db.toNat)) ?_ ?_))))
  · refine ⟨_,_,⟨(.slice none 0 0:Value),(0:Nat),([]:List Int),(0:Nat),rfl,rfl,bD,Nat.le_refl _,Acc.nil,(by omega),f8,f6,f7,(by omega),(by rfl),(by rfl),(by exact Nat.zero_le _)⟩,⟨rfl,rfl,rfl,rfl,rfl,trivial⟩⟩
  · rintro _ _ cj ⟨fQ,fN,l,j,rfl,rfl,ek,je,b7,cf,f9,f10,f11,nU,al,a',aS⟩ bV;have zP:=ab.tw (ab.Fz (c:=c) (by omega));refine .go 2 rfl (.aX (.lt rfl rfl) (fun aV=>?_) fun aV=>?_)
    · exact .go 15 rfl (.z (.bZ ((shard+(((j:Nat):Int)))) rfl rfl (by omega)) (.a_ wJ aP f9 (have:=Int.emod_nonneg ((shard+(((j:Nat):Int))):Int) (by omega:(c.workers:Int)≠0);have:=Int.emod_lt_of_pos ((shard+(((j:Nat):Int))):Int) (by omega:(0:Int) < c.workers);.z (.rJ (((shard+(((j:Nat):Int))) % c.workers)) rfl rfl ⟨by omega,by omega,rfl⟩) (.z (.bZ ((1+(((shard+(((j:Nat):Int))) % c.workers)))) rfl rfl (by omega)) (.ac (.buildSlice [(.int .i64 ((1+(((shard+(((j:Nat):Int))) % c.workers)))):Value)] Tryz.underlying57 aP rfl rfl rfl (by decide) fun cM bj aW bc eY bH=>have b6:=b7.lt;have f12:=b7.ext aW;have f13:=f9.ext aW;have f14:=f10.ext aW;have f15:=f11.ext aW;have fq:=ek.ext aW;have lv:=aW.size;have dG:=ak.eP (enc:=aA.encI) bH ([(1+(((shard+(((j:Nat):Int))) % c.workers)))]:List Int) 1 rfl rfl (by unfold maxLen; omega);have e1:=f12.lt;.ac (.append f12 Tryz.underlying57 aP rfl aA.fy aA.Cx rfl rfl (dG) ol gA fun v1 g1 de dH bh eA gh=>have f':=f12.lt;have f16:=f13.bt bh (by omega);have f17:=f14.bt bh (by omega);have f18:=f15.bt bh (by omega);have h9:=Ext.hq fq bh (by omega);have o6:=bh.size;.go 4 rfl (.z (.bZ (((j+1:Nat):Int)) rfl rfl (by omega)) (.ae 2 rfl ((bV _ _ _ ⟨(v1:Value),(g1:Nat),((l++[(1+(((shard+(((j:Nat):Int))) % c.workers)))]):List Int),(j+1:Nat),rfl,rfl,h9,(by omega),dH,(by omega),f16,f17,f18,(by omega),(by first|rw [al,List.range_succ,List.map_append]; rfl|(exfalso; omega)),(by first|omega|(simp only [List.length_append,List.length_cons,List.length_nil]; omega)|(exfalso; omega)),(by first|omega|(exfalso; omega))⟩ (by omega)).sub ⟨rfl,rfl,rfl,rfl,rfl,trivial⟩))))))))))
    exact .ae 9 rfl (aL Tryz.func59 rfl rfl (aj.mk ⟨⟨_,Acc.cast b7 (by first|exact ab.Jh aK al (by omega)|exact ab.FA aK|(exfalso; omega)),by omega⟩,ek⟩))
 replace aK:=aK.symm;have:=ab.ow aK;exact .z (.not rfl) (.ae 6 rfl (aL Tryz.func59 rfl rfl (aj.mk ⟨⟨0,Acc.cast Acc.nil (by first|exact ab.Jh aK al (by omega)|exact ab.FA aK|(exfalso; omega)),.inl rfl⟩,bD⟩)))
theorem ae1 {w0:World}  {jd:Value} {s:List Int} (v:Int) (jX:ak aA.encI w0 (aR 0 w0.heap.size) jd s) :
 Calls Tryz.prog 106 #[jd,.int .i64 v] w0 (aj fun aD ai=>aD=.int .i64 (ab.ov s v)∧Ext w0 ai):=by
 have ba:Ext w0 w0:=Mod.refl _ _;have fg:=jX.le;refine bS Tryz.func106 rfl Tryz.ntmps106 rfl (.go 8 rfl (.z (.ca Tryz.underlying57 (jX) rfl) (.ae 3 rfl (dU (I:=fun m E W=>∃ (k:Nat),E=[(0,jd),(1,.int .i64 v),(7,.int .i64 (((s.length:Nat):Int))),(8,.int .i64 (((k:Nat):Int)))]∧m=s.length-k∧Ext w0 W∧w0.heap.size≤W.heap.size∧ak aA.encI W (aR 0 w0.heap.size) jd s∧(ab.tv s v k)) ?_ ?_))))
 · refine ⟨_,_,⟨(0:Nat),rfl,rfl,ba,Nat.le_refl _,jX,(by exact ab.tv.start s v)⟩,⟨rfl,rfl,rfl,rfl,trivial⟩⟩
 · rintro _ _ ai ⟨k,rfl,rfl,bf,dW,f1,al⟩ bV;refine .go 2 rfl (.aX (.lt rfl rfl) (fun aJ=>?_) fun aJ=>?_)
   · refine .ae 2 rfl ?_;obtain ⟨aw,aN,fE,a7,bK,b6,iR,cV⟩:=ak.ft (P:=Tryz.prog) f1 Tryz.underlying57 aP aA.fy (k:=.i64) (n:=((k:Nat):Int)) (k) (by omega) aU;refine .go 14 rfl (.z (.indexAddr rfl rfl bK) (.z (.dT aP cV) (.h8 (.eq rfl rfl) (fun aK=>?_) fun aK=>?_)))
     · exact .ae 7 rfl (aL Tryz.func106 rfl rfl (aj.mk ⟨(congrArg (Value.int .i64) (by first|exact al.found a7 aK|exact al.fin (by omega)|(exfalso; omega))),bf⟩))
     exact .go 5 rfl (.z (.bZ (((k+1:Nat):Int)) rfl rfl (by omega)) (.ae 2 rfl ((bV _ _ _ ⟨(k+1:Nat),rfl,rfl,bf,(by omega),f1,(by first|exact al.next a7 aK|(exfalso; omega))⟩ (by omega)).sub ⟨rfl,rfl,rfl,rfl,trivial⟩)))
   exact .ae 8 rfl (aL Tryz.func106 rfl rfl (aj.mk ⟨(congrArg (Value.int .i64) (by first|exact al.found a7 aK|exact al.fin (by omega)|(exfalso; omega))),bf⟩))
theorem ae2 {w0:World}  {jd:Value} {s:List Int} (v:Int) (jX:ak aA.encI w0 (aR 0 w0.heap.size) jd s) :
 Calls Tryz.prog 58 #[jd,.int .i64 v] w0 (aj fun aD ai=>(∃ b4:Bool,b4=(s.contains v)∧aD=.bool b4)∧Ext w0 ai):=by
 have ba:Ext w0 w0:=Mod.refl _ _;have fg:=jX.le;refine bS Tryz.func58 rfl Tryz.ntmps58 rfl (.go 8 rfl (.ac (.aE aeh rfl (ae1 (w0:=w0) (s:=s) (v) ((jX).b0 (Nat.zero_le _) (by omega))) ?_)));rintro _ ai ⟨rfl,au⟩;have bf:=ba.ext au;have dW:=au.size;exact .ev (.ge rfl rfl) fun aG aJ=>.ae 2 rfl (aL Tryz.func58 rfl rfl (aj.mk ⟨⟨_,(by first|rw [ab.O']; assumption|(exfalso; omega)),rfl⟩,bf⟩))
theorem T6 {p:Prop} (h:p:=by first|exact ab.XX al (by assumption)|exact ab.XY al (by assumption)|(exfalso; omega)):p:=h
theorem Lp {w0:World}  {c:b1} {dh:Value} {di:Value} (worker:Int) (fh:ak cp w0 (aR 0 w0.heap.size) dh c.words) (fi:ak g' w0 (aR 0 w0.heap.size) di c.cuts) (bE:b1.Ok c) (ae3:bp worker) :
 Calls Tryz.prog 25 #[.agg #[dh,di,.int .i64 c.workers,.int .i64 c.db,.int .i64 c.dA,.int .i64 c.batch,.int .i64 c.dB,.int .i64 c.dC,.int .i64 c.first,.int .i64 c.cap,.int .i64 c.dD,.int .i64 c.dE],.int .i64 worker] w0 (aj fun aD ai=>(∃ cZ,Acc aA.encI 3 1 ai cZ aD (ab.bY c worker)∧(cZ=0∨w0.heap.size < cZ))∧Ext w0 ai):=by
 have ba:Ext w0 w0:=Mod.refl _ _;have fg:=fh.le;have lx:=fi.le;have r8:=bE.workers;have p6:=bE.db;have r9:=bE.dA;have r_:=bE.batch;have r':=bE.dB;have sa:=bE.dC;have sb:=bE.first;have sc:=bE.cap;have sd:=bE.dD;have se:=bE.dE;refine bS Tryz.func25 rfl Tryz.ntmps25 rfl (.go 2 rfl (.ac (.box [dh,di,.int .i64 c.workers,.int .i64 c.db,.int .i64 c.dA,.int .i64 c.batch,.int .i64 c.dB,.int .i64 c.dC,.int .i64 c.first,.int .i64 c.cap,.int .i64 c.dD,.int .i64 c.dE] rfl rfl fun ai aG au aJ c9 a1=>have f1:=fh.ext au;have f2:=fi.ext au;have bf:=ba.ext au;have dW:=au.size;.go 9 rfl (.z (.c4 jc rfl (fun _ e=>e▸a1.row) rfl) ?_))));refine .ac (.aE K8 rfl (Lo (w0:=ai) (c:=c)  ((f1).b0 (Nat.zero_le _) (by omega)) ((f2).b0 (Nat.zero_le _) (by omega)) (by first|assumption|exact ab.b1.l8 (by decide +kernel))) ?_);rintro _ aZ ⟨rfl,ax⟩;have f3:=f1.ext ax;have f4:=f2.ext ax;have f5:=a1.ext ax;have bk:=bf.ext ax;have e7:=ax.size;have:=ab.qQ c;refine .ae 3 rfl (dU (I:=fun m E W=>∃ (fQ:Value) (fN:Nat) (l:List Int) (k:Nat),E=[(1,.int .i64 worker),(2,ptr aG 0),(5,fQ),(8,.int .i64 ((((ab.hs c:Nat):Int)))),(9,.int .i64 (((k:Nat):Int)))]∧m=ab.hs c-k∧Ext w0 W∧aZ.heap.size≤W.heap.size∧Acc aA.encI 3 1 W fN fQ l∧(fN=0∨w0.heap.size < fN)∧ez W aG [dh,di,.int .i64 c.workers,.int .i64 c.db,.int .i64 c.dA,.int .i64 c.batch,.int .i64 c.dB,.int .i64 c.dC,.int .i64 c.first,.int .i64 c.cap,.int .i64 c.dD,.int .i64 c.dE] 26∧ak cp W (aR 0 w0.heap.size) dh c.words∧ak g' W (aR 0 w0.heap.size) di c.cuts∧aG+1≠fN∧(l=((List.range k).filter (fun s:Nat=>(ab.iA c (s:Int)).contains worker)).map (fun s:Nat=>(s:Int)))∧(l.length≤k)∧(k≤ab.hs c)) ?_ ?_)
 · refine ⟨_,_,⟨(.slice none 0 0:Value),(0:Nat),([]:List Int),(0:Nat),rfl,rfl,bk,Nat.le_refl _,Acc.nil,(by omega),f5,f3,f4,(by omega),(by rfl),(by exact Nat.zero_le _),(by exact Nat.zero_le _)⟩,⟨rfl,rfl,rfl,rfl,rfl,trivial⟩⟩
 · rintro _ _ bz ⟨fQ,fN,l,k,rfl,rfl,bD,hx,b7,cf,f6,f7,f8,nU,al,a',hk⟩ bV;have wh:=ab.qQ c;refine .go 2 rfl (.aX (.lt rfl rfl) (fun aK=>?_) fun aK=>?_)
   · refine .go 13 rfl (.z (.c4 jc rfl (fun _ e=>e▸f6.row) rfl) ?_);refine .go 1 rfl (.ac (.aE aeb rfl (ae0 (w0:=bz) (c:=c) (((k:Nat):Int)) ((f7).b0 (Nat.zero_le _) (by omega)) ((f8).b0 (Nat.zero_le _) (by omega)) (by first|assumption|exact ab.b1.l8 (by decide +kernel)) cu) ?_));rintro v1 cj ⟨⟨h2,h1,eA⟩,aM⟩;have b6:=b7.lt;have f9:=b7.ext aM;have f10:=f6.ext aM;have f11:=f7.ext aM;have f12:=f8.ext aM;have ek:=bD.ext aM;have je:=aM.size;have jl:=h1.le;have q8:=h1.lt;have:=QZ c (((k:Nat):Int));refine .go 1 rfl (.ac (.aE aea rfl (ae2 (w0:=cj) (s:=(ab.iA c (((k:Nat):Int)))) (worker) ((h1.bl).b0 (Nat.zero_le _) (by omega))) ?_));rintro _ cM ⟨⟨bn,aV,rfl⟩,aW⟩;have dG:=f9.lt;have e1:=h1.lt;have f13:=f9.ext aW;have f14:=f10.ext aW;have f15:=f11.ext aW;have f16:=f12.ext aW;have f17:=h1.ext aW;have fq:=ek.ext aW;have lv:=aW.size;refine .ae 1 rfl ?_;cases bn
     case true =>
      replace aV:=aV.symm;exact .go 4 rfl (.ac (.buildSlice [(.int .i64 (((k:Nat):Int)):Value)] Tryz.underlying57 aP rfl rfl rfl (by decide) fun de bj bh bc eY bH=>have f':=f13.lt;have hU:=f17.lt;have f18:=f13.ext bh;have f19:=f14.ext bh;have f20:=f15.ext bh;have f21:=f16.ext bh;have f22:=f17.ext bh;have h9:=fq.ext bh;have o6:=bh.size;have h4:=ak.eP (enc:=aA.encI) bH ([((k:Nat):Int)]:List Int) 1 rfl rfl (by unfold maxLen; omega);have jy:=f18.lt;.ac (.append f18 Tryz.underlying57 aP rfl aA.fy aA.Cx rfl rfl (h4) ol gA fun v2 g1 dv dH bQ iG gh=>have kj:=f18.lt;have jM:=f22.lt;have f23:=f19.bt bQ (by omega);have f24:=f20.bt bQ (by omega);have f25:=f21.bt bQ (by omega);have jm:=Ext.hq h9 bQ (by omega);have qp:=bQ.size;.go 4 rfl (.z (.bZ (((k+1:Nat):Int)) rfl rfl (by omega)) (.ae 2 rfl ((bV _ _ _ ⟨(v2:Value),(g1:Nat),((l++[((k:Nat):Int)]):List Int),(k+1:Nat),rfl,rfl,jm,(by omega),dH,(by omega),f23,f24,f25,(by omega),T6,(by first|omega|(simp only [List.length_append,List.length_cons,List.length_nil]; omega)|(exfalso; omega)),(by first|omega|(exfalso; omega))⟩ (by omega)).sub ⟨rfl,rfl,rfl,rfl,rfl,trivial⟩))))))
     replace aV:=aV.symm;exact .go 4 rfl (.z (.bZ (((k+1:Nat):Int)) rfl rfl (by omega)) (.ae 2 rfl ((bV _ _ _ ⟨(fQ:Value),(fN:Nat),(l:List Int),(k+1:Nat),rfl,rfl,fq,(by omega),f13,(by omega),f14,f15,f16,(by omega),T6,(by first|omega|(simp only [List.length_append,List.length_cons,List.length_nil]; omega)|(exfalso; omega)),(by first|omega|(exfalso; omega))⟩ (by omega)).sub ⟨rfl,rfl,rfl,rfl,rfl,trivial⟩)))
   exact .ae 9 rfl (aL Tryz.func25 rfl rfl (aj.mk ⟨⟨_,Acc.cast b7 (by first|rw [al,show k=ab.hs c from by omega]; rfl|(exfalso; omega)),by omega⟩,bD⟩))
theorem ae4 {w0:World}  {c:b1} {dh:Value} {di:Value} (shard:Int) (fh:ak cp w0 (aR 0 w0.heap.size) dh c.words) (fi:ak g' w0 (aR 0 w0.heap.size) di c.cuts) (bE:b1.Ok c) (ya:bp shard) (hlen:c.words.length≤1000000) :
 Calls Tryz.prog 39 #[.agg #[dh,di,.int .i64 c.workers,.int .i64 c.db,.int .i64 c.dA,.int .i64 c.batch,.int .i64 c.dB,.int .i64 c.dC,.int .i64 c.first,.int .i64 c.cap,.int .i64 c.dD,.int .i64 c.dE],.int .i64 shard] w0 (aj fun aD ai=>(∃ cZ,Acc cp 9 1 ai cZ aD (ab.rN c shard)∧(cZ=0∨w0.heap.size < cZ))∧Ext w0 ai):=by
 have ba:Ext w0 w0:=Mod.refl _ _;have fg:=fh.le;have lx:=fi.le;refine bS Tryz.func39 rfl Tryz.ntmps39 rfl (.go 2 rfl (.ac (.box [dh,di,.int .i64 c.workers,.int .i64 c.db,.int .i64 c.dA,.int .i64 c.batch,.int .i64 c.dB,.int .i64 c.dC,.int .i64 c.first,.int .i64 c.cap,.int .i64 c.dD,.int .i64 c.dE] rfl rfl fun ai aG au aJ c9 a1=>have f1:=fh.ext au;have f2:=fi.ext au;have bf:=ba.ext au;have dW:=au.size;.go 4 rfl (.a_ tU tT a1 (.a_ BF n3 a1 (.go 1 rfl (.ac (.aE aec rfl (aeY (w0:=ai) (cuts:=c.cuts) (words:=c.words) (shard) ((f2).b0 (Nat.zero_le _) (by omega)) ((f1).b0 (Nat.zero_le _) (by omega)) cu (by exact bE.words) aU) ?_))))))));rintro v1 aZ ⟨⟨h2,h1,cf⟩,ax⟩;have bk:=bf.ext ax;have e7:=ax.size;have jl:=h1.le;have q8:=h1.lt;have:=Gh c.cuts c.words shard;exact .ae 2 rfl (aL Tryz.func39 rfl rfl (aj.mk ⟨⟨_,Acc.cast h1 (by rfl),by omega⟩,bk⟩))
end Go.Proofs
namespace Go.Proofs
open Go.aA Go.ab
theorem T7 {w0:World}  (s:ag) (aF:s.length≤1000000) (cA:s≠[]) :
 Calls Tryz.prog 209 #[aH s] w0 (aj fun aD ai=>∃ ec fF,aD=.tuple #[ec,fF]∧ec=.int .i32 ((ab.fm s:Int))∧fF=.int .i64 (((ab.kF s:Nat):Int))∧Ext w0 ai):=by
 have ba:Ext w0 w0:=Mod.refl _ _;refine bS Tryz.func209 rfl Tryz.ntmps209 rfl (.go 13 rfl (.ac (.I8 Tryz.underlying9 rfl fun ai aG au aJ c9 a1=>have bf:=ba.ext au;have dW:=au.size;.ae 2 rfl (dU (I:=fun m E W=>∃ (hd:Int) (p:Nat),E=[(0,aH s),(4,.int .i32 hd),(8,ptr aG 0)]∧m=s.length-p∧Ext w0 W∧ai.heap.size≤W.heap.size∧qO W aG s p∧(ab.wb s p hd)∧(0≤hd∧hd≤1114111)) ?_ ?_))))
 · refine ⟨_,_,⟨(0:Int),(0:Nat),rfl,rfl,bf,Nat.le_refl _,a1,(by exact .inl ⟨rfl,rfl⟩),(by omega)⟩,⟨rfl,rfl,rfl,trivial⟩⟩
 · rintro _ _ aZ ⟨hd,p,rfl,rfl,bk,e7,f1,al,DQ⟩ bV;refine .go 2 rfl (.ac (.hY rfl f1 ?_ ?_))
   · intro sV;exact .go 9 rfl (.z (.mK Tryz.underlying9 rfl) (.ae 3 rfl (bM Tryz.func209 rfl rfl rfl (aj.mk ⟨_,_,rfl,(congrArg (Value.int .i32) (by first|(with_reducible exact (al.ret (by omega)).1)|(with_reducible exact (al.ret (by omega)).2)|(with_reducible exact (al.fin cA (by assumption)).1)|(with_reducible exact (al.fin cA (by assumption)).2)|(exfalso; omega))),(congrArg (Value.int .i64) (by first|(with_reducible exact (al.ret (by omega)).1)|(with_reducible exact (al.ret (by omega)).2)|(with_reducible exact (al.fin cA (by assumption)).1)|(with_reducible exact (al.fin cA (by assumption)).2)|(exfalso; omega))),bk⟩))))
   · intro bz sV ax eY bH;have bD:=Ext.hq bk ax (by omega);have hx:=ax.size;refine .go 17 rfl (.aX (.gt rfl rfl) (fun aK=>?_) fun aK=>?_)
     · exact .ae 9 rfl (bM Tryz.func209 rfl rfl rfl (aj.mk ⟨_,_,rfl,(congrArg (Value.int .i32) (by first|(with_reducible exact (al.ret (by omega)).1)|(with_reducible exact (al.ret (by omega)).2)|(with_reducible exact (al.fin cA (by assumption)).1)|(with_reducible exact (al.fin cA (by assumption)).2)|(exfalso; omega))),(congrArg (Value.int .i64) (by first|(with_reducible exact (al.ret (by omega)).1)|(with_reducible exact (al.ret (by omega)).2)|(with_reducible exact (al.fin cA (by assumption)).1)|(with_reducible exact (al.fin cA (by assumption)).2)|(exfalso; omega))),bD⟩))
     exact .ae 8 rfl ((bV _ _ _ ⟨(((dec (s.drop p)).1:Int):Int),((p+(dec (s.drop p)).2):Nat),rfl,rfl,bD,(by omega),bH,(by first|exact ab.wb.next al (by assumption) (by omega)|(exfalso; omega)),(by first|have:=OB (s.drop p); omega|(exfalso; omega))⟩ (by have:=ab.dec_lt (by assumption:List.drop p s≠[]); omega)).sub ⟨rfl,rfl,rfl,trivial⟩)
theorem ae5 {w0:World}  (s:ag) (p:ag)  :
 Calls Tryz.prog 219 #[aH s,aH p] w0 (aj fun aD ai=>(∃ b4:Bool,b4=(p.isPrefixOf s)∧aD=.bool b4)∧Ext w0 ai):=by
 have ba:Ext w0 w0:=Mod.refl _ _;refine bS Tryz.func219 rfl Tryz.ntmps219 rfl (.go 7 rfl (.z (.mK Tryz.underlying9 rfl) (.go 1 rfl (.z (.mK Tryz.underlying9 rfl) (.aX (.ge rfl rfl) (fun aJ=>?_) fun aJ=>?_)))))
 · exact .go 3 rfl (.z (.mK Tryz.underlying9 rfl) (.z (.I7 (p.length) Tryz.underlying9 rfl rfl (by omega) aU) (.go 1 rfl (.ev (.Cs rfl rfl) fun aN aK=>.ae 3 rfl (aL Tryz.func219 rfl rfl (aj.mk ⟨⟨_,(by first|exact ab.PU (by omega) (by assumption)|exact ab.PV (by omega)|(exfalso; omega)),rfl⟩,ba⟩))))))
 exact .ae 10 rfl (aL Tryz.func219 rfl rfl (aj.mk ⟨⟨_,(by first|exact ab.PU (by omega) (by assumption)|exact ab.PV (by omega)|(exfalso; omega)),rfl⟩,ba⟩))
theorem T8 {w0:World}  (s:ag) (p:ag)  :
 Calls Tryz.prog 210 #[aH s,aH p] w0 (aj fun aD ai=>(∃ b4:Bool,b4=(p.isPrefixOf s)∧aD=.bool b4)∧Ext w0 ai):=by
 have ba:Ext w0 w0:=Mod.refl _ _;refine bS Tryz.func210 rfl Tryz.ntmps210 rfl (.go 8 rfl (.ac (.aE aeE rfl (ae5 (w0:=w0)  s p ) ?_)));rintro _ ai ⟨⟨aG,aJ,rfl⟩,au⟩;have bf:=ba.ext au;have dW:=au.size;exact .ae 2 rfl (aL Tryz.func210 rfl rfl (aj.mk ⟨⟨_,(by first|assumption|(exfalso; omega)),rfl⟩,bf⟩))
theorem ae6 {w0:World}  {jd:Value} {s:List bm} (jX:ak eg w0 (aR 0 w0.heap.size) jd s) (Hi:s.length≤1000000) :
 Calls Tryz.prog 179 #[jd] w0 (aj fun aD ai=>(∃ cZ,Acc eg 233 2 ai cZ aD (s)∧(cZ=0∨w0.heap.size < cZ))∧Ext w0 ai):=by
 have ba:Ext w0 w0:=Mod.refl _ _;have fg:=jX.le;refine bS Tryz.func179 rfl Tryz.ntmps179 rfl ?_;obtain ⟨br,bs,ej,c9⟩:=ak.isNil (jX);refine .go 8 rfl ?_;subst ej;refine .ev (.JB Tryz.underlying219 rfl rfl) fun aG aJ=>.ae 1 rfl ?_
 cases aG
 case true =>
  replace aJ:=aJ.symm;replace c9:=c9 aJ;exact .ae 5 rfl (aL Tryz.func179 rfl rfl (aj.mk ⟨⟨0,Acc.cast Acc.nil (by first|(symm; assumption)|simp|(exfalso; omega)),.inl rfl⟩,ba⟩))
 replace aJ:=aJ.symm;exact .go 4 rfl (.ac (.buildSlice [] Tryz.underlying219 dY rfl rfl rfl (by decide) fun ai aN au aK eY a1=>have f1:=jX.ext au;have bf:=ba.ext au;have dW:=au.size;have b6:=Acc.eP (enc:=eg) a1 ([]:List bm) 0 rfl j' rfl (by unfold maxLen; omega);have dG:=b6.lt;.go 1 rfl (.ac (.append b6 Tryz.underlying219 dY rfl j' tB rfl rfl (f1) ol gA fun v1 g1 aZ b7 ax cf gh=>have e1:=b6.lt;have bk:=Ext.hq bf ax (by omega);have e7:=ax.size;.ae 2 rfl (aL Tryz.func179 rfl rfl (aj.mk ⟨⟨_,Acc.cast b7 (by first|(symm; assumption)|simp|(exfalso; omega)),by omega⟩,bk⟩))))))
theorem Lq {w0:World}  {h_:Value} {fX ew:Nat} {g:List bC} (o7:gp 0 w0 fX ew h_ g) (wM:ew≤w0.heap.size) :
 Calls Tryz.prog 183 #[h_] w0 (aj fun aD ai=>aD=.int .i64 (((g.length:Nat):Int))∧Ext w0 ai):=by
 have ba:Ext w0 w0:=Mod.refl _ _;refine bS Tryz.func183 rfl Tryz.ntmps183 rfl (have n9:=o7;.go 8 rfl ?_);rcases o7 with ⟨ej,qq⟩|⟨aG,wN,hz,ej,qq,sY,BP,tZ⟩
 · subst ej;try subst qq
   exact .z (.nr Tryz.underlying99 rfl rfl) (.ae 6 rfl (aL Tryz.func183 rfl rfl (aj.mk ⟨(congrArg (Value.int .i64) (by first|rfl|exact congrArg (fun n:Nat=>(n:Int)) tZ.get.1|(exfalso; omega))),ba⟩)))
 · subst ej;have Lr:=(cx.get tZ).1;refine .z (.nr Tryz.underlying99 rfl rfl) (.go 7 rfl (.z (.fieldAddr mV rfl) (.z (.cT mU rfl (fun _ e=>e▸(iV.cell sY 0 _ rfl))) ?_)));exact .z (.ca Tryz.underlying262 (BP) rfl) (.ae 2 rfl (aL Tryz.func183 rfl rfl (aj.mk ⟨(congrArg (Value.int .i64) (by first|rfl|exact congrArg (fun n:Nat=>(n:Int)) tZ.get.1|(exfalso; omega))),ba⟩)))
theorem Ls {w0:World}  {h_:Value} {fX ew:Nat} {g:List bC} (n:Int) (o7:gp 0 w0 fX ew h_ g) (wM:ew≤w0.heap.size) (zQ:bp n) (q1:g.length≤1000000) :
 Calls Tryz.prog 150 #[h_,.int .i64 n] w0 (aj fun aD ai=>(∃ (T9:Bool) (T_:Value),aD=.agg #[.bool T9,T_]∧T9=(nodeAt g n).1∧ak eg ai (aR fX ew) T_ (nodeAt g n).2)∧Ext w0 ai):=by
 have ba:Ext w0 w0:=Mod.refl _ _;refine bS Tryz.func150 rfl Tryz.ntmps150 rfl (.go 2 rfl (.ac (.alloc iQ fun ai aG au aJ c9 a1=>have f1:=o7.ext au;have bf:=ba.ext au;have dW:=au.size;.go 5 rfl (.aX (.lt rfl rfl) (fun aK=>?_) fun aK=>?_))))
 · refine .go 10 rfl (.z (.build (vs:=#[]) (v:=.agg #[.bool false,.slice none 0 0]) rfl (fun _=>by kernel_rfl)) (.ac (.store iQ rfl rfl rfl rfl rfl a1 dx fun aZ ax eY bH=>?_)));replace bH:ez aZ aG [.bool false,.slice none 0 0] 238:=bH;have bk:=Ext.hq bf ax (by omega);have e7:=ax.size;exact .ae 1 rfl (xC Tryz.func150 rfl rfl iQ bH.row rfl (aj.mk ⟨⟨_,_,rfl,by rw [CR (by omega)],by rw [CR (by omega)]; exact ak.nil⟩,bk⟩))
 refine .go 3 rfl (.ac (.aE Ld rfl (Lq (w0:=ai)   f1 (by omega)) ?_));rintro _ aZ ⟨rfl,ax⟩;have f2:=f1.ext ax;have f3:=a1.ext ax;have bk:=bf.ext ax;have e7:=ax.size;refine .aX (.ge rfl rfl) (fun aV=>?_) fun aV=>?_
 · refine .go 5 rfl (.z (.build (vs:=#[]) (v:=.agg #[.bool false,.slice none 0 0]) rfl (fun _=>by kernel_rfl)) (.ac (.store iQ rfl rfl rfl rfl rfl f3 dx fun bz aM eY bH=>?_)));replace bH:ez bz aG [.bool false,.slice none 0 0] 238:=bH;have bD:=Ext.hq bk aM (by omega);have hx:=aM.size;exact .ae 1 rfl (xC Tryz.func150 rfl rfl iQ bH.row rfl (aj.mk ⟨⟨_,_,rfl,by rw [CR (by omega)],by rw [CR (by omega)]; exact ak.nil⟩,bD⟩))
 refine .ae 2 rfl ?_;have n9:=f2;obtain ⟨bj,wN,hz,ej,qq,sY,BP,tZ⟩:=gp.pos f2 (by omega);refine .go 5 rfl ?_;subst ej;have Lr:=(cx.get tZ).1;refine .go 1 rfl (.z (.fieldAddr mV rfl) (.z (.cT mU rfl (fun _ e=>e▸(iV.cell sY 0 _ rfl))) ?_));obtain ⟨aw,cR,fE,a7,bK,b6,iR,cV⟩:=ak.ft (P:=Tryz.prog) BP Tryz.underlying262 iQ l9 (k:=.i64) (n:=n) ((n).toNat) (by omega) aU;refine .go 1 rfl (.z (.indexAddr rfl rfl bK) (.z (.c4 iQ rfl (fun _ e=>e▸cV) rfl) ?_));obtain ⟨gU,nU,Lt,q'⟩:=iC.at tZ a7;refine .ac (.st iQ f3 fun bz aM bH=>?_);replace bH:ez bz aG [.bool aw.fin,aw.e.val] 238:=bH;have f8:=q'.bt aM (by omega);have bD:=Ext.hq bk aM (by omega);have hx:=aM.size;exact .ae 1 rfl (xC Tryz.func150 rfl rfl iQ bH.row rfl (have oD:=JC (by omega) nU;aj.mk ⟨⟨_,_,rfl,by rw [oD]; exact Lt,by rw [oD]; exact f8⟩,bD⟩))
theorem T' {w0:World}  {h_:Value} {fX ew:Nat} {g:List bC} (n:Int) (o7:gp 0 w0 fX ew h_ g) (wM:ew≤w0.heap.size) (zQ:bp n) (q1:g.length≤1000000) :
 Calls Tryz.prog 144 #[h_,.int .i64 n] w0 (aj fun aD ai=>(∃ b4:Bool,b4=((nodeAt g n).1)∧aD=.bool b4)∧Ext w0 ai):=by
 have ba:Ext w0 w0:=Mod.refl _ _;refine bS Tryz.func144 rfl Tryz.ntmps144 rfl (.go 8 rfl (.ac (.aE Lb rfl (Ls (w0:=w0) (g:=g) (n) o7 (by omega) cu aU) ?_)));rintro _ ai ⟨⟨iI,Ua,rfl,kk,q'⟩,au⟩;obtain ⟨br,bs,ej⟩:=q'.shape;subst ej;have bf:=ba.ext au;have dW:=au.size;have jl:=q'.le;exact .z (.field (v:=(.bool iI:Value)) rfl (fun _=>by kernel_rfl)) (.ae 2 rfl (aL Tryz.func144 rfl rfl (aj.mk ⟨⟨_,(by first|assumption|exact kk|(exfalso; omega)),rfl⟩,bf⟩)))
theorem BQ {w0:World}  {h_:Value} {fX ew:Nat} {g:List bC} (n:Int) (o7:gp 0 w0 fX ew h_ g) (wM:ew≤w0.heap.size) (zQ:bp n) (q1:g.length≤1000000) (gZ:∀ x∈g,x.2.length≤1000000) :
 Calls Tryz.prog 145 #[h_,.int .i64 n] w0 (aj fun aD ai=>(∃ cZ,Acc eg 233 2 ai cZ aD ((nodeAt g n).2)∧(cZ=0∨w0.heap.size < cZ))∧Ext w0 ai):=by
 have ba:Ext w0 w0:=Mod.refl _ _;refine bS Tryz.func145 rfl Tryz.ntmps145 rfl (.go 8 rfl (.ac (.aE Lb rfl (Ls (w0:=w0) (g:=g) (n) o7 (by omega) cu aU) ?_)));rintro _ ai ⟨⟨iI,Ua,rfl,kk,q'⟩,au⟩;obtain ⟨br,bs,ej⟩:=q'.shape;subst ej;have bf:=ba.ext au;have dW:=au.size;have jl:=q'.le;refine .z (.field (v:=(.slice br (nodeAt g n).2.length bs)) rfl (fun _=>by kernel_rfl)) (have wO:=A0 gZ n;.ac (.aE aey rfl (ae6 (w0:=ai) (s:=(nodeAt g n).2)  ((q').b0 (Nat.zero_le _) (by omega)) aU) ?_));rintro v1 aZ ⟨⟨h2,h1,cf⟩,ax⟩;have bk:=bf.ext ax;have e7:=ax.size;have n_:=h1.le;have q8:=h1.lt;exact .ae 2 rfl (aL Tryz.func145 rfl rfl (aj.mk ⟨⟨_,Acc.cast h1 (by rfl),by omega⟩,bk⟩))
end Go.Proofs
namespace Go.Proofs
open Go.aA Go.ab
def Tryz.joinL_ren:Go.Shelf.Ren:=⟨fun|156=>208|165=>216|166=>217|169=>218|240=>221|241=>222|276=>224|277=>225|n=>n,fun|31=>23|9=>9|3=>3|4=>4|0=>0|20=>20|72=>305|76=>309|70=>303|37=>120|75=>308|127=>314|164=>316|5=>5|80=>311|n=>n,fun|n=>n⟩
theorem Tryz.joinL:Go.Proofs.Lays.n156 Tryz.prog Tryz.joinL_ren:={
 mixed:=by kernel_rfl,
 f156:=Tryz.func208.trans (congrArg some (by kernel_rfl)),
 f165:=Tryz.func216.trans (congrArg some (by kernel_rfl)),
 f166:=Tryz.func217.trans (congrArg some (by kernel_rfl)),
 f169:=Tryz.func218.trans (congrArg some (by kernel_rfl)),
 f240:=Tryz.func221.trans (congrArg some (by kernel_rfl)),
 f241:=Tryz.func222.trans (congrArg some (by kernel_rfl)),
 f276:=Tryz.func224.trans (congrArg some (by kernel_rfl)),
 f277:=Tryz.func225.trans (congrArg some (by kernel_rfl)),
 t0:=Tryz.underlying0,
 a0:=Tryz.isAgg0,
 z0:=Tryz.sizeOf0,
 v0:=Tryz.zeroValue0,
 t3:=Tryz.underlying3,
 a3:=Tryz.isAgg3,
 z3:=Tryz.sizeOf3,
 v3:=Tryz.zeroValue3,
 t4:=Tryz.underlying4,
 a4:=Tryz.isAgg4,
 z4:=Tryz.sizeOf4,
 v4:=Tryz.zeroValue4,
 t9:=Tryz.underlying9,
 a9:=Tryz.isAgg9,
 z9:=Tryz.sizeOf9,
 v9:=Tryz.zeroValue9,
 t20:=Tryz.underlying20,
 a20:=Tryz.isAgg20,
 z20:=Tryz.sizeOf20,
 v20:=Tryz.zeroValue20,
 t31:=Tryz.underlying23,
 a31:=Tryz.isAgg23,
 z31:=Tryz.sizeOf23,
 v31:=Tryz.zeroValue23,
 t37:=Tryz.underlying120,
 a37:=Tryz.isAgg120,
 z37:=Tryz.sizeOf120,
 v37:=Tryz.zeroValue120,
 t70:=Tryz.underlying303,
 a70:=Tryz.isAgg303,
 z70:=Tryz.sizeOf303,
 v70:=Tryz.zeroValue303,
 t72:=Tryz.underlying305,
 a72:=Tryz.isAgg305,
 z72:=Tryz.sizeOf305,
 v72:=Tryz.zeroValue305,
 t75:=Tryz.underlying308,
 a75:=Tryz.isAgg308,
 z75:=Tryz.sizeOf308,
 v75:=Tryz.zeroValue308,
 t76:=Tryz.underlying309,
 a76:=Tryz.isAgg309,
 z76:=Tryz.sizeOf309,
 v76:=Tryz.zeroValue309,
 t127:=Tryz.underlying314,
 a127:=Tryz.isAgg314,
 z127:=Tryz.sizeOf314,
 v127:=Tryz.zeroValue314,
 t164:=Tryz.underlying316,
 a164:=Tryz.isAgg316,
 z164:=Tryz.sizeOf316,
 v164:=Tryz.zeroValue316 }
theorem ae7:Go.Proofs.Builder.Extra Tryz.prog Tryz.joinL_ren:={
 sizeBuilder:=by kernel_rfl,
 liesBuilder:=by kernel_rfl,
 t5:=Tryz.underlying5,
 a5:=Tryz.isAgg5,
 z5:=Tryz.sizeOf5,
 v5:=Tryz.zeroValue5,
 infoByte:=by kernel_rfl,
 cellsByte:=by kernel_rfl,
 sizeByte:=by kernel_rfl,
 neB5:=by decide }
end Go.Proofs
namespace Go.Proofs
open Go.aA Go.ab
theorem Hp {p:Prop} (h:p:=by first|exact ⟨by rw [kl]; exact bK.1.more _,fun t aQ=>bK.2.1 t (List.mem_of_mem_drop aQ),fun t aQ=>bK.2.2 t (List.mem_of_mem_drop aQ)⟩|(exfalso; omega)):p:=h
theorem Hq {p:Prop} (h:p:=by first|rw [show s++(ay,[])::(xs++fL)=(s++(ay,[])::xs)++fL by simp,←mi]; exact t_|(exfalso; omega)):p:=h
theorem h' {p:Prop} (h:p:=by decide):p:=h
theorem iJ {p:Prop} (h:p:=by omega):p:=h
theorem Hr {p:Prop} (h:p:=by first|exact ll.cast wP (by rw [mi]; simp) kl.symm|(exfalso; omega)):p:=h
theorem Hs {p:Prop} (h:p:=by first|exact .inr ⟨_,by assumption,by assumption⟩|exact .inl (by omega)):p:=h
theorem Ht {p:Prop} (h:p:=by first|assumption|omega|(simp; done)):p:=h
theorem zR {p:Prop} (h:p:=by unfold maxLen; omega):p:=h
theorem ae8:∀ (f:Nat) {w0:World} {F G:Nat→Prop} {iq:Nat} {sZ:Value} {ay:List ag} {aT:List cc} {s:ch} (eK:(jR 283 264 238 iq s aT).p F w0) (bO:∀ b,F b→b < w0.heap.size) (aB:ak cp w0 G sZ ay) (cC:∀ b,G b→¬ F b) (fj:∀ b,G b→b < w0.heap.size) (hlen:aT.length=s.length) (hd:Deep f ay) (aO:fD ay) (cA:ay≠[]) (kr:(names s).Nodup) (DR:u5 s) (dr:s.length+1+h0 ay≤1000000) (ra:ay.length≤1000),
 Calls Tryz.prog 194 #[ptr iq 0,sZ] w0 (aj fun aD ai=>aD=.int .i64 ((eh (f+1) s ay).2:Int)∧Mod F w0 ai∧∃ t xs,(eh (f+1) s ay).1=s++xs∧∃ cO,(bA [jR 283 264 238 iq (s++xs) (aT++t),ig t xs]).p cO ai∧∀ b,cO b→b < ai.heap.size∧(F b∨w0.heap.size≤b)):=by
 intro f
 induction f using Nat.strongRecOn with
 | _ f n' =>
 intro w0 F G iq sZ ay aT s eK bO aB cC fj hlen hd aO cA kr DR dr ra;have gB:=ar.nu eK (fun b U=>⟨bO b U,id⟩) (fun _ h=>h.elim);have Dc:=List.length_pos_iff.2 cA;have fg:=aB.le;have ze:=tC aO;have akD:=FX ay;have Hu:=CW ay;obtain ⟨⟨yb,wQ,rb⟩,cP⟩:=gB.iO (i:=0) rfl;change ar (fun _=>False) F w0 w0 [bA [az iq [ptr yb 0,.map (some wQ)] 283,az yb [rb] 264,kb aH fo wQ (kG s),bb eR 238 2 rb aT]] at cP;have bx:=(cP.un 0 rfl [] (by rfl) (by decide)).bu;refine bS Tryz.func194 rfl Tryz.ntmps194 rfl (.go 7 rfl (.ac (.aE aeD rfl (YP Tryz.joinL ae7 (w0:=w0) aB cA fj iJ) ?_)));rintro _ ai ⟨rfl,au⟩;have bJ:=bx.ext au;refine .go 7 rfl (have f1:=bJ.k 0;.a_ TC Ts f1 (have f2:=bJ.map (i:=2) rfl;.go 1 rfl ?_))
 cases oI:s.findIdx? (fun x=>x.1==ay) with
 | none =>
  have pN:fH (kG s) (oy ay)=none:=by rw [PS aO.CN cA s DR,oI]; rfl
  refine .z (.Qm (key:=aH) (val:=fo) (Ju Tryz.underlying9) Tryz.underlying281 Tryz.zeroValue3 rfl rfl (fun _ e=>e▸f2) pN) ?_
  refine .go 16 rfl ?_
  refine .a_ x' pI f1 ?_
  refine .go 1 rfl ?_
  have f3:=bJ.k 1
  refine .a_ mV mU f3 ?_
  obtain ⟨g1,f4,b6,bw⟩:=bJ.bU (i:=3) rfl
  refine .z (.ca Tryz.underlying262 (f4.bl) rfl) ?_
  refine .go 6 rfl ?_
  refine .a_ TC Ts f1 ?_
  refine .go 2 rfl ?_
  refine .ac (.PL (key:=aH) (val:=fo) (u:=((aT.length:Nat):Int)) (Ju Tryz.underlying9) Tryz.underlying281 rfl rfl rfl f2 pN fun aZ ax c9 a1=>?_)
  replace a1:lO aH fo aZ wQ (kG (s++[(ay,[])])):=Y9 a1 (by rw [YJ,hlen])
  have b2:=(bJ.kG (i:=2) rfl ax a1).bu
  obtain ⟨g2,f5,dG,cB⟩:=b2.bU (i:=3) rfl
  refine .ae 2 rfl ?_
  refine fx (fun i=>Nat.beq i 12 || Nat.beq i 13 || Nat.beq i 16) 16 (fun ah=>Mod (b5 g2) aZ ah) mixed (by kernel_rfl) fun bz aM=>?_
  have bP:=b2.ext aM
  have jx:Mod (b5 g2) aZ bz:=Mod.gW aM
  refine ⟨jx,?_⟩
  rw [show List.range' 0 (Array.size _)=[0,1,2,3,4,5,6,7,8,9,10,11,12,13,14,15,16] from rfl]
  refine .gd 2 rfl ?_
  refine .z rfl (.fieldAddr x' rfl) ?_
  have f6:=b2.k 0
  refine .z rfl (.cT pI rfl (fun _ an=>(f6.cell 0 _ rfl).bt an (b2.ne (i:=3) (j:=0) rfl rfl h' f5))) ?_
  refine .gd 2 rfl ?_
  refine .z rfl (.fieldAddr x' rfl) ?_
  refine .z rfl (.cT pI rfl (fun _ an=>(f6.cell 0 _ rfl).bt an (b2.ne (i:=3) (j:=0) rfl rfl h' f5))) ?_
  refine .gd 1 rfl ?_
  refine .z rfl (.fieldAddr mV rfl) ?_
  have f7:=b2.k 1
  refine .z rfl (.cT mU rfl (fun _ an=>(f7.cell 0 _ rfl).bt an (b2.ne (i:=3) (j:=1) rfl rfl h' f5))) ?_
  refine .z rfl (.build (vs:=#[]) (v:=.agg #[.bool false,.slice none 0 0]) rfl (fun _=>by kernel_rfl)) ?_
  refine .ac rfl (.buildSlice [(.agg #[.bool false,.slice none 0 0]:Value)] Tryz.underlying262 iQ rfl rfl rfl h' fun cj aG aW aJ eY bH=>?_)
  have e1:=ak.eP (enc:=eR) bH ([(cc.mk false (cb.mk none 0 0))]:List cc) 1 rfl rfl zR
  have bR:=(bP.iD aW aJ eY e1).c6
  have kx:=jx.ext aW
  refine ⟨.inr kx,?_⟩
  obtain ⟨g4,f8,f',d_⟩:=bR.bU (i:=3) rfl
  have sV:=Acc.uniq f5 f8
  subst sV
  have f9:=bR.bl (i:=4) (k:=0) rfl rfl
  refine .ac rfl (.append f8 Tryz.underlying262 iQ rfl l9 CQ rfl rfl (f9) ol gA fun v1 g3 cM b7 bh cf gh=>?_)
  have cv:=(d_ _ _ _ _ bh b7 cf).c6
  have mg:=kx.trans bh
  refine ⟨.inr mg,?_⟩
  clear cf
  refine .gd 1 rfl ?_
  refine .z rfl (.fieldAddr mV rfl) ?_
  obtain ⟨g5,f10,hU,hS⟩:=cv.bU (i:=3) rfl
  obtain ⟨br,bs,ej⟩:=f10.shape
  subst ej
  have f11:=cv.k 1
  refine .ac rfl (.st mU f11 fun de bQ cE=>?_)
  have cI:=(cv.cL (cs':=[(.slice br ((aT++[(cc.mk false (cb.mk none 0 0))])).length bs)]) (i:=1) rfl bQ cE).c6
  refine ⟨.inl rfl,?_⟩
  refine .nil ?_
  have f12:=cI.out aB cC
  refine .go 3 rfl ?_
  refine .z (.ca Tryz.underlying23 (f12) rfl) ?_
  refine .By (.gt rfl rfl) (by exact decide_eq_true (by have:=List.length_pos_iff.2 cA; omega)) ?_
  obtain ⟨aw,bn,fE,a7,bK,h4,cV⟩:=ak.eH (P:=Tryz.prog) f12 Tryz.underlying23 dp hr (k:=.i64) (n:=0) (0) iJ aU
  refine .go 2 rfl ?_
  refine .z (.indexAddr rfl rfl bK) ?_
  refine .z (.dT dp cV) ?_
  refine .h8 (.Cs rfl rfl) (fun aV=>?_) fun aV=>?_
  · refine .ae 8 rfl ?_
    obtain ⟨v2,c_,jy⟩:=ak.part (P:=Tryz.prog) aB Tryz.underlying23 dp hr (1) (ay.length) (.inr ⟨.i64,1,rfl,by omega⟩) (.inl ⟨rfl,rfl⟩) iJ aU
    replace jy:ak cp w0 G v2 (ay.drop 1):=by simpa using jy
    refine .go 3 rfl ?_
    refine .z (.ss rfl rfl rfl rfl c_) ?_
    have t':=Qf a7 (by assumption)
    have b8:=(cI.bj [4] 0 1 2 3 (by rfl) h').cK
    have bW:ar (fun _=>False) F w0 de [ff eR [((.slice (some ⟨aG,0,none⟩) 1 1),[(cc.mk false (cb.mk none 0 0))])],jR 283 264 238 iq (s++(ay,[])::[]) (aT++cc.mk false (cb.mk none 0 0)::[])]:=b8.hJ (yb,wQ,(.slice br ((aT++[(cc.mk false (cb.mk none 0 0))])).length bs)) (i:=1) rfl
    have ct:ar (fun _=>False) F w0 de [ff eR [((.slice (some ⟨aG,0,none⟩) 1 1),[(cc.mk false (cb.mk none 0 0))])],jR 283 264 238 iq (s++(ay,[])::[]) (aT++cc.mk false (cb.mk none 0 0)::[]),ig [] []]:=bW.new (Mod.refl _ _) (F:=fun _=>False) (cx.nil:mB _ _ [] []) (fun _ h=>h.elim)
    have bF:ar (fun _=>False) F w0 de [ff eR [((.slice (some ⟨aG,0,none⟩) 1 1),[(cc.mk false (cb.mk none 0 0))])],jR 283 264 238 iq (s++(ay,[])::[]) (aT++cc.mk false (cb.mk none 0 0)::[]),ig [] [],bb eg 233 2 (.slice none 0 0) []]:=ct.fU (Mod.refl _ _) Acc.nil (.inl rfl)
    have cg:=(bF.dj [1,2,3] (by rfl) h').dM
    refine .ae 8 rfl ?_
    refine dU (I:=fun m E W=>∃ (wR:Value) (df:List ag) (j1:Value) (dw:List bm) (xs:ch) (fI:List cc),E=[(0,ptr iq 0),(1,wR),(8,.int .i64 (((aT.length:Nat):Int))),(9,.bool true),(10,j1)]∧m=df.length∧ar (fun _=>False) F w0 W [jR 283 264 238 iq (s++(ay,[])::xs) (aT++cc.mk false (cb.mk none 0 0)::fI),ig fI xs,bb eg 233 2 j1 dw]∧ak cp w0 G wR df∧(ll f (s++[(ay,[])]) (ga (eZ ay)) (s++(ay,[])::xs) dw df)∧(fD df∧(∀ t∈df,t≠[])∧Deep f df)∧(u5 (s++(ay,[])::xs)∧(names (s++(ay,[])::xs)).Nodup)∧(s.length+1+xs.length+h0 df≤1000000)∧(dw.length+df.length≤1000)∧(fI.length=xs.length)) ?_ ?_
    · refine ⟨_,_,⟨(v2:Value),((ay.drop 1):List ag),(.slice none 0 0:Value),([]:List bm),([]:ch),([]:List cc),rfl,rfl,cg,jy,(by first|(rw [t'.1]; exact ll.start f _ _)),(by rw [←t'.1]; exact ⟨ze.1,ze.2,fun t aQ=>hd t (zc aQ)⟩),(by exact Qe oI kr DR cA aO.CN),(by rw [←t'.1]; simp only [List.length_nil]; omega),(by rw [←t'.1]; simp only [List.length_nil]; omega),(by rfl)⟩,⟨rfl,rfl,rfl,rfl,rfl,trivial⟩⟩
    · rintro _ _ dv ⟨wR,df,j1,dw,xs,fI,rfl,rfl,cq,dH,qs,bK,iS,dW,gZ,ae9⟩ bV
      have f13:=cq.out dH cC
      refine .go 4 rfl ?_
      refine .z (.ca Tryz.underlying23 (f13) rfl) ?_
      refine .aX (.gt rfl rfl) (fun bc=>?_) fun bc=>?_
      · refine .ae 1 rfl ?_
        obtain ⟨x2,c8,iv,cY,fM,kj,eL⟩:=ak.eH (P:=Tryz.prog) f13 Tryz.underlying23 dp hr (k:=.i64) (n:=0) (0) iJ aU
        refine .go 6 rfl ?_
        refine .z (.indexAddr rfl rfl fM) ?_
        refine .z (.dT dp eL) ?_
        have oZ:=List.mem_of_getElem? cY
        have ae_:=bK.1.my x2 oZ
        have i_:x2≠[]:=bK.2.1 x2 oZ
        obtain ⟨f2,rfl⟩:=JO bK.2.2 oZ i_
        have pO:=JR i_
        have Bs:=CO x2 i_
        have re:=A7 oZ
        have nB:=CP x2
        refine .ac (.aE TR rfl (T7 (w0:=dv)  x2 Ht (by assumption)) ?_)
        rintro _ en ⟨_,_,rfl,rfl,rfl,b3⟩
        have cz:=cq.ext b3
        have:=ab.CO x2
        have:=ab.CP x2
        have dd:ar (fun _=>False) F w0 en [jR 283 264 238 iq (s++(ay,[])::xs) (aT++cc.mk false (cb.mk none 0 0)::fI),ig fI xs,bb eg 233 2 j1 dw,bb cp 9 1 (.slice none 0 0) []]:=cz.fU (Mod.refl _ _) Acc.nil (.inl rfl)
        refine .ae 16 rfl ?_
        refine dU (I:=fun m E W=>∃ (k:Nat) (qt:Value) (aN:List ag),E=[(0,ptr iq 0),(1,wR),(8,.int .i64 (((aT.length:Nat):Int))),(9,.bool true),(10,j1),(11,.int .i32 (((ab.fm x2:Int)))),(12,.int .i64 ((((ab.kF x2:Nat):Int)))),(13,.int .i64 (((k:Nat):Int))),(14,qt)]∧m=df.length-k∧ar (fun _=>False) F w0 W [jR 283 264 238 iq (s++(ay,[])::xs) (aT++cc.mk false (cb.mk none 0 0)::fI),ig fI xs,bb eg 233 2 j1 dw,bb cp 9 1 qt aN]∧(px (cU x2) df k aN)∧(aN.length≤k)∧(k≤df.length)) ?_ ?_
        · refine ⟨_,_,⟨(0:Nat),(.slice none 0 0:Value),([]:List ag),rfl,rfl,dd,(by exact px.start _ _),(by exact Nat.zero_le _),iJ⟩,⟨rfl,rfl,rfl,rfl,rfl,rfl,rfl,rfl,rfl,trivial⟩⟩
        · rintro _ _ eE ⟨k,qt,aN,rfl,rfl,cS,ps,jT,n4⟩ fk
          refine .ae 2 rfl ?_
          refine fx (fun i=>Nat.beq i 14) 16 (fun ah=>Mod (b5 0) eE ah) mixed (by kernel_rfl) fun eO cF=>?_
          have dI:=cS.ext cF
          have rf:Mod (b5 0) eE eO:=Mod.gW cF
          refine ⟨rf,?_⟩
          rw [show List.range' 0 (Array.size _)=[0,1,2,3,4,5,6,7,8,9,10,11,12,13,14,15] from rfl]
          have f14:=cS.out dH cC
          refine .gd 2 rfl ?_
          refine .z rfl (.ca Tryz.underlying23 (f14) rfl) ?_
          refine .aX rfl (.lt rfl rfl) (fun cy=>?_) fun cy=>?_
          · refine .gd 1 rfl ?_
            obtain ⟨fA,h5,pP,hM,iK,jM,jn⟩:=ak.eH (P:=Tryz.prog) f14 Tryz.underlying23 dp hr (k:=.i64) (n:=((k:Nat):Int)) (k) iJ aU
            refine .gd 2 rfl ?_
            refine .z rfl (.indexAddr rfl rfl iK) ?_
            refine .z rfl (.cT dp rfl (fun _ an=>jn.bt an (Nat.succ_ne_zero _))) ?_
            have ae':=A7 (List.mem_of_getElem? hM)
            obtain ⟨fc,kO,s0,ia,iL,j2,ly⟩:=ak.eH (P:=Tryz.prog) f14 Tryz.underlying23 dp hr (k:=.i64) (n:=0) (0) iJ aU
            obtain rfl:x2=fc:=Option.some.inj (cY.symm.trans ia)
            refine .gd 1 rfl ?_
            refine .z rfl (.indexAddr rfl rfl iL) ?_
            refine .z rfl (.cT dp rfl (fun _ an=>ly.bt an (Nat.succ_ne_zero _))) ?_
            refine .gd 1 rfl ?_
            refine .z rfl (.I7 (ab.kF x2) Tryz.underlying9 rfl rfl iJ aU) ?_
            refine .ac rfl (.aE TS rfl (T8 (w0:=eO)  fA ((x2.take (ab.kF x2))) ) ?_)
            rintro _ gi ⟨⟨j3,ck,rfl⟩,cG⟩
            have eF:=dI.ext cG
            have ua:=rf.ext cG
            refine ⟨.inr ua,?_⟩
            refine .gd 1 rfl ?_
            refine .nil ?_
            cases j3
            case true =>
             replace ck:=ck.symm
             have f15:=eF.out dH cC
             obtain ⟨hN,mF,BR,lz,oa,mj,sf⟩:=ak.eH (P:=Tryz.prog) f15 Tryz.underlying23 dp hr (k:=.i64) (n:=((k:Nat):Int)) (k) iJ aU
             obtain rfl:fA=hN:=Option.some.inj (hM.symm.trans lz)
             refine .go 8 rfl ?_
             refine .z (.indexAddr rfl rfl oa) ?_
             refine .z (.dT dp sf) ?_
             have Lu:kF x2≤fA.length:=JQ (p:=x2.take (kF x2)) (by assumption) pO
             refine .go 1 rfl ?_
             refine .z (.I6 (ab.kF x2) Tryz.underlying9 rfl rfl iJ aU) ?_
             refine .ac (.buildSlice [aH ((fA.drop (ab.kF x2)))] Tryz.underlying23 dp rfl rfl rfl h' fun hA pQ cX c' gL da=>?_)
             have s3:=ak.eP (enc:=cp) da ([(fA.drop (ab.kF x2))]:List ag) 1 rfl rfl zR
             have ds:=(eF.iD cX c' gL s3).c6
             obtain ⟨g7,f16,yc,ih⟩:=ds.bU (i:=3) rfl
             have f17:=ds.bl (i:=4) (k:=0) rfl rfl
             refine .ac (.append f16 Tryz.underlying23 dp rfl hr xm rfl rfl (f17) ol gA fun v3 g6 j4 ob dV eA i1=>?_)
             have fs:=(ih _ _ _ _ dV ob eA).c6
             clear eA
             refine .go 4 rfl ?_
             refine .z (.bZ (((k+1:Nat):Int)) rfl rfl iJ) ?_
             have eW:=(fs.dj [0,1,2,3] (by rfl) h').bu
             refine .ae 3 rfl ?_
             exact (fk _ _ _ ⟨(k+1:Nat),(v3:Value),((aN++[(fA.drop (ab.kF x2))]):List ag),rfl,rfl,eW,(by first|exact ps.JP pO hM (by assumption)|(exfalso; omega)),(by first|simp only [List.length_append,List.length_cons,List.length_nil]; omega|(exfalso; omega)),(by first|omega|(exfalso; omega))⟩ iJ).sub ⟨rfl,rfl,rfl,rfl,rfl,rfl,rfl,rfl,rfl,trivial⟩
            replace ck:=ck.symm
            obtain ⟨v3,oa,mj⟩:=ak.part (P:=Tryz.prog) dH Tryz.underlying23 dp hr (k) (df.length) (.inr ⟨.i64,((k:Nat):Int),rfl,by omega⟩) (.inl ⟨rfl,rfl⟩) iJ aU
            replace mj:ak cp w0 G v3 (df.drop k):=by simpa using mj
            refine .go 6 rfl ?_
            refine .z (.ss rfl rfl rfl rfl oa) ?_
            obtain ⟨lk,kl⟩:=ps.fin Hs
            have e9:=A6 cY bK
            refine .go 7 rfl ?_
            subst lk
            have wP:=qs.A5 cY
            have dK:=(eF.freeze (i:=3) rfl).bu
            have t_:=FY e9.2.2.1 e9.1 e9.2.1 iS.2 iS.1
            obtain ⟨zS,Lv,mY,ub,uc,lA,iT,mZ⟩:=dK.CV (i:=0) (j:=3) rfl rfl h'
            refine .ac (.aE DI rfl (n' f2 iJ mY (fun b U=>(lA b U).2) (C2 ub) uc iT (by simp only [List.length_append,List.length_cons]; omega) e9.2.2.1 e9.1 e9.2.1 iS.2 iS.1 (by simp only [List.length_append,List.length_cons]; omega) iJ) ?_)
            rintro _ hA ⟨rfl,cX,t2,fL,mi,zT,gC,m_⟩
            have ds:ar (fun _=>False) F w0 hA [bA [jR 283 264 238 iq ((s++(ay,[])::xs)++fL) ((aT++cc.mk false (cb.mk none 0 0)::fI)++t2),ig t2 fL],ig fI xs,bb eg 233 2 j1 dw,ff cp [(qt,(ee (cU x2) df))]]:=mZ _ _ _ cX gC m_
            have lB:=Gb gC
            clear mY ub uc lA iT mZ gC m_
            have fs:=(ds.un 0 rfl [1,2,3] (by rfl) h').c6
            have eW:=(fs.aN [1,2,3] 0 4 (by rfl) h').bu
            have fR:=(eW.ty (ig (fI++t2) (xs++fL)) 3 rfl (fun eS bN=>Ga bN)).bu
            have fB:=(fR.ty (jR 283 264 238 iq (s++(ay,[])::(xs++fL)) (aT++cc.mk false (cb.mk none 0 0)::(fI++t2))) 2 rfl (fun eS bN=>by simpa only [List.append_assoc,List.cons_append] using bN)).bu
            have o8:=xD (f2+1) (s++(ay,[])::xs) (ee (cU x2) df) e9.1
            rw [mi] at o8
            simp only [List.length_append,List.length_cons] at o8
            have rR:(eh (f2+1) (s++(ay,[])::xs) (ee (cU x2) df)).2 < ((s++(ay,[])::xs)++fL).length:=by rw [←mi]; exact A4 e9.2.2.1 e9.1 e9.2.1 iS.2
            simp only [List.length_append,List.length_cons] at rR
            refine .z (.build (vs:=#[(0,(.int .i32 (((ab.fm x2:Int))):Value)),(1,(.int .i64 ((((eh (f2+1) (s++(ay,[])::xs) (ee (cU x2) df)).2:Nat):Int)):Value))]) (v:=.agg #[.int .i32 (((ab.fm x2:Int))),.int .i64 ((((eh (f2+1) (s++(ay,[])::xs) (ee (cU x2) df)).2:Nat):Int))]) rfl (fun _=>by kernel_rfl)) ?_
            refine .ac (.buildSlice [(.agg #[.int .i32 (((ab.fm x2:Int))),.int .i64 ((((eh (f2+1) (s++(ay,[])::xs) (ee (cU x2) df)).2:Nat):Int))]:Value)] Tryz.underlying219 dY rfl rfl rfl h' fun j4 mF dV c' gL da=>?_)
            have s3:=ak.eP (enc:=eg) da ([(bm.mk (((ab.fm x2:Int))) ((((eh (f2+1) (s++(ay,[])::xs) (ee (cU x2) df)).2:Nat):Int)))]:List bm) 1 rfl rfl zR
            have ij:=(fB.iD dV c' gL s3).c6
            obtain ⟨g7,f15,yc,ih⟩:=ij.bU (i:=0) rfl
            have f16:=ij.bl (i:=4) (k:=0) rfl rfl
            refine .ac (.append f15 Tryz.underlying219 dY rfl j' tB rfl rfl (f16) ol gA fun v4 g6 lC ob fG eA i1=>?_)
            have h6:=(ih _ _ _ _ fG ob eA).c6
            clear eA
            have lZ:=(h6.dj [2,3,0] (by rfl) h').dM
            refine .ae 3 rfl ?_
            exact (bV _ _ _ ⟨(v3:Value),((df.drop k):List ag),(v4:Value),((dw++[(bm.mk (((ab.fm x2:Int))) ((((eh (f2+1) (s++(ay,[])::xs) (ee (cU x2) df)).2:Nat):Int)))]):List bm),((xs++fL):ch),((fI++t2):List cc),rfl,rfl,lZ,mj,Hr,Hp,Hq,(by first|rw [kl]; simp only [List.length_append]; omega|(exfalso; omega)),(by first|rw [kl]; simp only [List.length_append,List.length_cons,List.length_nil]; omega|(exfalso; omega)),(by first|simp only [List.length_append]; omega|(exfalso; omega))⟩ (by rw [kl]; omega)).sub ⟨rfl,rfl,rfl,rfl,rfl,trivial⟩
          refine .gd 12 rfl ?_
          refine .nil ?_
          obtain ⟨v3,iK,jM⟩:=ak.part (P:=Tryz.prog) dH Tryz.underlying23 dp hr (k) (df.length) (.inr ⟨.i64,((k:Nat):Int),rfl,by omega⟩) (.inl ⟨rfl,rfl⟩) iJ aU
          replace jM:ak cp w0 G v3 (df.drop k):=by simpa using jM
          refine .go 6 rfl ?_
          refine .z (.ss rfl rfl rfl rfl iK) ?_
          obtain ⟨lk,kl⟩:=ps.fin Hs
          have e9:=A6 cY bK
          refine .go 7 rfl ?_
          subst lk
          have wP:=qs.A5 cY
          have eF:=(dI.freeze (i:=3) rfl).bu
          have t_:=FY e9.2.2.1 e9.1 e9.2.1 iS.2 iS.1
          obtain ⟨zS,Lv,mY,ub,uc,lA,iT,mZ⟩:=eF.CV (i:=0) (j:=3) rfl rfl h'
          refine .ac (.aE DI rfl (n' f2 iJ mY (fun b U=>(lA b U).2) (C2 ub) uc iT (by simp only [List.length_append,List.length_cons]; omega) e9.2.2.1 e9.1 e9.2.1 iS.2 iS.1 (by simp only [List.length_append,List.length_cons]; omega) iJ) ?_)
          rintro _ gi ⟨rfl,cG,t2,fL,mi,zT,gC,m_⟩
          have dK:ar (fun _=>False) F w0 gi [bA [jR 283 264 238 iq ((s++(ay,[])::xs)++fL) ((aT++cc.mk false (cb.mk none 0 0)::fI)++t2),ig t2 fL],ig fI xs,bb eg 233 2 j1 dw,ff cp [(qt,(ee (cU x2) df))]]:=mZ _ _ _ cG gC m_
          have lB:=Gb gC
          clear mY ub uc lA iT mZ gC m_
          have ds:=(dK.un 0 rfl [1,2,3] (by rfl) h').c6
          have fs:=(ds.aN [1,2,3] 0 4 (by rfl) h').bu
          have eW:=(fs.ty (ig (fI++t2) (xs++fL)) 3 rfl (fun eS bN=>Ga bN)).bu
          have fR:=(eW.ty (jR 283 264 238 iq (s++(ay,[])::(xs++fL)) (aT++cc.mk false (cb.mk none 0 0)::(fI++t2))) 2 rfl (fun eS bN=>by simpa only [List.append_assoc,List.cons_append] using bN)).bu
          have o8:=xD (f2+1) (s++(ay,[])::xs) (ee (cU x2) df) e9.1
          rw [mi] at o8
          simp only [List.length_append,List.length_cons] at o8
          have rR:(eh (f2+1) (s++(ay,[])::xs) (ee (cU x2) df)).2 < ((s++(ay,[])::xs)++fL).length:=by rw [←mi]; exact A4 e9.2.2.1 e9.1 e9.2.1 iS.2
          simp only [List.length_append,List.length_cons] at rR
          refine .z (.build (vs:=#[(0,(.int .i32 (((ab.fm x2:Int))):Value)),(1,(.int .i64 ((((eh (f2+1) (s++(ay,[])::xs) (ee (cU x2) df)).2:Nat):Int)):Value))]) (v:=.agg #[.int .i32 (((ab.fm x2:Int))),.int .i64 ((((eh (f2+1) (s++(ay,[])::xs) (ee (cU x2) df)).2:Nat):Int))]) rfl (fun _=>by kernel_rfl)) ?_
          refine .ac (.buildSlice [(.agg #[.int .i32 (((ab.fm x2:Int))),.int .i64 ((((eh (f2+1) (s++(ay,[])::xs) (ee (cU x2) df)).2:Nat):Int))]:Value)] Tryz.underlying219 dY rfl rfl rfl h' fun hA h5 cX ck gL da=>?_)
          have j2:=ak.eP (enc:=eg) da ([(bm.mk (((ab.fm x2:Int))) ((((eh (f2+1) (s++(ay,[])::xs) (ee (cU x2) df)).2:Nat):Int)))]:List bm) 1 rfl rfl zR
          have hB:=(fR.iD cX ck gL j2).c6
          obtain ⟨g7,f15,mj,ih⟩:=hB.bU (i:=0) rfl
          have f16:=hB.bl (i:=4) (k:=0) rfl rfl
          refine .ac (.append f15 Tryz.underlying219 dY rfl j' tB rfl rfl (f16) ol gA fun v4 g6 j4 ob dV eA i1=>?_)
          have ij:=(ih _ _ _ _ dV ob eA).c6
          clear eA
          have h6:=(ij.dj [2,3,0] (by rfl) h').dM
          refine .ae 3 rfl ?_
          exact (bV _ _ _ ⟨(v3:Value),((df.drop k):List ag),(v4:Value),((dw++[(bm.mk (((ab.fm x2:Int))) ((((eh (f2+1) (s++(ay,[])::xs) (ee (cU x2) df)).2:Nat):Int)))]):List bm),((xs++fL):ch),((fI++t2):List cc),rfl,rfl,h6,jM,Hr,Hp,Hq,(by first|rw [kl]; simp only [List.length_append]; omega|(exfalso; omega)),(by first|rw [kl]; simp only [List.length_append,List.length_cons,List.length_nil]; omega|(exfalso; omega)),(by first|simp only [List.length_append]; omega|(exfalso; omega))⟩ (by rw [kl]; omega)).sub ⟨rfl,rfl,rfl,rfl,rfl,trivial⟩
      refine .ae 1 rfl ?_
      obtain ⟨⟨sg,wS,qu⟩,cz⟩:=cq.iO (i:=0) rfl
      change ar (fun _=>False) F w0 dv [bA [az iq [ptr sg 0,.map (some wS)] 283,az sg [qu] 264,kb aH fo wS (kG ((s++(ay,[])::xs))),bb eR 238 2 qu ((aT++cc.mk false (cb.mk none 0 0)::fI))],ig fI xs,bb eg 233 2 j1 dw] at cz
      have cS:=(cz.un 0 rfl [1,2] (by rfl) h').n6
      refine .go 6 rfl ?_
      have f14:=cS.k 2
      refine .a_ x' pI f14 ?_
      refine .go 1 rfl ?_
      have f15:=cS.k 3
      refine .a_ mV mU f15 ?_
      obtain ⟨g6,f16,kj,ih⟩:=cS.bU (i:=1) rfl
      obtain ⟨dN,dO,ju⟩:=f16.shape
      refine .go 3 rfl ?_
      subst ju
      refine .z (.build (vs:=#[(0,(.bool true:Value)),(1,(.slice dN dw.length dO))]) (v:=.agg #[.bool true,(.slice dN dw.length dO)]) rfl (fun _=>by kernel_rfl)) ?_
      obtain ⟨g7,f17,jM,nV⟩:=cS.bU (i:=5) rfl
      obtain ⟨fM,x2,cY⟩:=Acc.at (P:=Tryz.prog) f17 Tryz.underlying262 iQ (k:=.i64) (n:=((aT.length:Nat):Int)) (aT.length) iJ Ht
      refine .z (.indexAddr rfl rfl fM) ?_
      refine .ac (.rT f17 l9 (i:=aT.length) (o:=0) cY ((cc.mk true (cb.mk dN dw.length dO))) iQ rfl (by first|omega|rfl) rfl rfl rfl rfl h' (by first|rfl|simp [eR]) fun en b3 gL ob=>?_)
      have j2:(((aT++cc.mk false (cb.mk none 0 0)::fI)).set aT.length ((cc.mk true (cb.mk dN dw.length dO)))).length=((aT++cc.mk false (cb.mk none 0 0)::fI)).length:=List.length_set
      have dd:=(nV _ _ _ _ b3 ob (.inl rfl)).n6
      refine .ae 6 rfl ?_
      refine aL Tryz.func194 rfl rfl ?_
      have DS:df=[]:=List.eq_nil_of_length_eq_zero iJ
      subst DS
      have yd:=JN oI qs.fin
      have dI:=(dd.ty (bb eR 238 2 qu ((aT++(cc.mk true (cb.mk dN dw.length dO))::fI))) 5 rfl (fun eS bN=>by rw [show (((aT++cc.mk false (cb.mk none 0 0)::fI)).set aT.length ((cc.mk true (cb.mk dN dw.length dO))))=(aT++(cc.mk true (cb.mk dN dw.length dO))::fI) from by simp [List.set_append_right,hlen]] at bN; exact bN)).n6
      have eF:=(dI.ty (kb aH fo wS ((kG (s++(ay,dw)::xs)))) 4 rfl (fun eS bN=>by rw [show kG (s++(ay,[])::xs)=kG (s++(ay,dw)::xs) from Qh _ _ _ _ _] at bN; exact bN)).n6
      have dK:=(eF.bj [0,1] 2 3 4 5 (by rfl) h').dM
      have ds:ar (fun _=>False) F w0 en [ig fI xs,bb eg 233 2 ((.slice dN dw.length dO)) dw,jR 283 264 238 iq (s++(ay,dw)::xs) (aT++(cc.mk true (cb.mk dN dw.length dO))::fI)]:=dK.hJ (sg,wS,qu) (i:=2) rfl
      have fs:=(ds.aN [2] 1 0 (by rfl) h').cK
      have eW:=(fs.ty (ig ((cc.mk true (cb.mk dN dw.length dO))::fI) ((ay,dw)::xs)) 1 rfl (fun eS bN=>QH rfl t'.2.symm bN)).cK
      have fR:=(eW.aN [] 0 1 (by rfl) h').cJ
      obtain ⟨cD,cO,j5,hD⟩:=fR.fin
      exact aj.mk ⟨by rw [yd]; simp [hlen],cD,(cc.mk true (cb.mk dN dw.length dO))::fI,(ay,dw)::xs,by rw [yd],cO,j5,hD⟩
  refine .ae 8 rfl ?_
  have t':=Qg a7 (by assumption)
  have b8:=(cI.bj [4] 0 1 2 3 (by rfl) h').cK
  have bW:ar (fun _=>False) F w0 de [ff eR [((.slice (some ⟨aG,0,none⟩) 1 1),[(cc.mk false (cb.mk none 0 0))])],jR 283 264 238 iq (s++(ay,[])::[]) (aT++cc.mk false (cb.mk none 0 0)::[])]:=b8.hJ (yb,wQ,(.slice br ((aT++[(cc.mk false (cb.mk none 0 0))])).length bs)) (i:=1) rfl
  have ct:ar (fun _=>False) F w0 de [ff eR [((.slice (some ⟨aG,0,none⟩) 1 1),[(cc.mk false (cb.mk none 0 0))])],jR 283 264 238 iq (s++(ay,[])::[]) (aT++cc.mk false (cb.mk none 0 0)::[]),ig [] []]:=bW.new (Mod.refl _ _) (F:=fun _=>False) (cx.nil:mB _ _ [] []) (fun _ h=>h.elim)
  have bF:ar (fun _=>False) F w0 de [ff eR [((.slice (some ⟨aG,0,none⟩) 1 1),[(cc.mk false (cb.mk none 0 0))])],jR 283 264 238 iq (s++(ay,[])::[]) (aT++cc.mk false (cb.mk none 0 0)::[]),ig [] [],bb eg 233 2 (.slice none 0 0) []]:=ct.fU (Mod.refl _ _) Acc.nil (.inl rfl)
  have cg:=(bF.dj [1,2,3] (by rfl) h').dM
  refine .ae 8 rfl ?_
  refine dU (I:=fun m E W=>∃ (wR:Value) (df:List ag) (j1:Value) (dw:List bm) (xs:ch) (fI:List cc),E=[(0,ptr iq 0),(1,wR),(8,.int .i64 (((aT.length:Nat):Int))),(9,.bool false),(10,j1)]∧m=df.length∧ar (fun _=>False) F w0 W [jR 283 264 238 iq (s++(ay,[])::xs) (aT++cc.mk false (cb.mk none 0 0)::fI),ig fI xs,bb eg 233 2 j1 dw]∧ak cp w0 G wR df∧(ll f (s++[(ay,[])]) (ga (eZ ay)) (s++(ay,[])::xs) dw df)∧(fD df∧(∀ t∈df,t≠[])∧Deep f df)∧(u5 (s++(ay,[])::xs)∧(names (s++(ay,[])::xs)).Nodup)∧(s.length+1+xs.length+h0 df≤1000000)∧(dw.length+df.length≤1000)∧(fI.length=xs.length)) ?_ ?_
  · refine ⟨_,_,⟨(sZ:Value),(ay:List ag),(.slice none 0 0:Value),([]:List bm),([]:ch),([]:List cc),rfl,rfl,cg,aB,(by first|(rw [t'.1]; exact ll.start f _ _)),(by rw [←t'.1]; exact ⟨ze.1,ze.2,fun t aQ=>hd t (zc aQ)⟩),(by exact Qe oI kr DR cA aO.CN),(by rw [←t'.1]; simp only [List.length_nil]; omega),(by rw [←t'.1]; simp only [List.length_nil]; omega),(by rfl)⟩,⟨rfl,rfl,rfl,rfl,rfl,trivial⟩⟩
  · rintro _ _ dv ⟨wR,df,j1,dw,xs,fI,rfl,rfl,cq,dH,qs,bK,iS,dW,gZ,ae9⟩ bV
    have f13:=cq.out dH cC
    refine .go 4 rfl ?_
    refine .z (.ca Tryz.underlying23 (f13) rfl) ?_
    refine .aX (.gt rfl rfl) (fun bc=>?_) fun bc=>?_
    · refine .ae 1 rfl ?_
      obtain ⟨x2,c8,iv,cY,c_,jy,eL⟩:=ak.eH (P:=Tryz.prog) f13 Tryz.underlying23 dp hr (k:=.i64) (n:=0) (0) iJ aU
      refine .go 6 rfl ?_
      refine .z (.indexAddr rfl rfl c_) ?_
      refine .z (.dT dp eL) ?_
      have oZ:=List.mem_of_getElem? cY
      have ae_:=bK.1.my x2 oZ
      have i_:x2≠[]:=bK.2.1 x2 oZ
      obtain ⟨f2,rfl⟩:=JO bK.2.2 oZ i_
      have pO:=JR i_
      have Bs:=CO x2 i_
      have re:=A7 oZ
      have nB:=CP x2
      refine .ac (.aE TR rfl (T7 (w0:=dv)  x2 Ht (by assumption)) ?_)
      rintro _ en ⟨_,_,rfl,rfl,rfl,b3⟩
      have cz:=cq.ext b3
      have:=ab.CO x2
      have:=ab.CP x2
      have dd:ar (fun _=>False) F w0 en [jR 283 264 238 iq (s++(ay,[])::xs) (aT++cc.mk false (cb.mk none 0 0)::fI),ig fI xs,bb eg 233 2 j1 dw,bb cp 9 1 (.slice none 0 0) []]:=cz.fU (Mod.refl _ _) Acc.nil (.inl rfl)
      refine .ae 16 rfl ?_
      refine dU (I:=fun m E W=>∃ (k:Nat) (qt:Value) (aN:List ag),E=[(0,ptr iq 0),(1,wR),(8,.int .i64 (((aT.length:Nat):Int))),(9,.bool false),(10,j1),(11,.int .i32 (((ab.fm x2:Int)))),(12,.int .i64 ((((ab.kF x2:Nat):Int)))),(13,.int .i64 (((k:Nat):Int))),(14,qt)]∧m=df.length-k∧ar (fun _=>False) F w0 W [jR 283 264 238 iq (s++(ay,[])::xs) (aT++cc.mk false (cb.mk none 0 0)::fI),ig fI xs,bb eg 233 2 j1 dw,bb cp 9 1 qt aN]∧(px (cU x2) df k aN)∧(aN.length≤k)∧(k≤df.length)) ?_ ?_
      · refine ⟨_,_,⟨(0:Nat),(.slice none 0 0:Value),([]:List ag),rfl,rfl,dd,(by exact px.start _ _),(by exact Nat.zero_le _),iJ⟩,⟨rfl,rfl,rfl,rfl,rfl,rfl,rfl,rfl,rfl,trivial⟩⟩
      · rintro _ _ eE ⟨k,qt,aN,rfl,rfl,cS,ps,jT,n4⟩ fk
        refine .ae 2 rfl ?_
        refine fx (fun i=>Nat.beq i 14) 16 (fun ah=>Mod (b5 0) eE ah) mixed (by kernel_rfl) fun eO cF=>?_
        have dI:=cS.ext cF
        have rf:Mod (b5 0) eE eO:=Mod.gW cF
        refine ⟨rf,?_⟩
        rw [show List.range' 0 (Array.size _)=[0,1,2,3,4,5,6,7,8,9,10,11,12,13,14,15] from rfl]
        have f14:=cS.out dH cC
        refine .gd 2 rfl ?_
        refine .z rfl (.ca Tryz.underlying23 (f14) rfl) ?_
        refine .aX rfl (.lt rfl rfl) (fun cy=>?_) fun cy=>?_
        · refine .gd 1 rfl ?_
          obtain ⟨fA,h5,pP,hM,fM,kj,jn⟩:=ak.eH (P:=Tryz.prog) f14 Tryz.underlying23 dp hr (k:=.i64) (n:=((k:Nat):Int)) (k) iJ aU
          refine .gd 2 rfl ?_
          refine .z rfl (.indexAddr rfl rfl fM) ?_
          refine .z rfl (.cT dp rfl (fun _ an=>jn.bt an (Nat.succ_ne_zero _))) ?_
          have ae':=A7 (List.mem_of_getElem? hM)
          obtain ⟨fc,kO,s0,ia,iK,jM,ly⟩:=ak.eH (P:=Tryz.prog) f14 Tryz.underlying23 dp hr (k:=.i64) (n:=0) (0) iJ aU
          obtain rfl:x2=fc:=Option.some.inj (cY.symm.trans ia)
          refine .gd 1 rfl ?_
          refine .z rfl (.indexAddr rfl rfl iK) ?_
          refine .z rfl (.cT dp rfl (fun _ an=>ly.bt an (Nat.succ_ne_zero _))) ?_
          refine .gd 1 rfl ?_
          refine .z rfl (.I7 (ab.kF x2) Tryz.underlying9 rfl rfl iJ aU) ?_
          refine .ac rfl (.aE TS rfl (T8 (w0:=eO)  fA ((x2.take (ab.kF x2))) ) ?_)
          rintro _ gi ⟨⟨j3,ck,rfl⟩,cG⟩
          have eF:=dI.ext cG
          have ua:=rf.ext cG
          refine ⟨.inr ua,?_⟩
          refine .gd 1 rfl ?_
          refine .nil ?_
          cases j3
          case true =>
           replace ck:=ck.symm
           have f15:=eF.out dH cC
           obtain ⟨hN,mF,BR,lz,iL,j2,sf⟩:=ak.eH (P:=Tryz.prog) f15 Tryz.underlying23 dp hr (k:=.i64) (n:=((k:Nat):Int)) (k) iJ aU
           obtain rfl:fA=hN:=Option.some.inj (hM.symm.trans lz)
           refine .go 8 rfl ?_
           refine .z (.indexAddr rfl rfl iL) ?_
           refine .z (.dT dp sf) ?_
           have Lu:kF x2≤fA.length:=JQ (p:=x2.take (kF x2)) (by assumption) pO
           refine .go 1 rfl ?_
           refine .z (.I6 (ab.kF x2) Tryz.underlying9 rfl rfl iJ aU) ?_
           refine .ac (.buildSlice [aH ((fA.drop (ab.kF x2)))] Tryz.underlying23 dp rfl rfl rfl h' fun hA pQ cX c' gL da=>?_)
           have mj:=ak.eP (enc:=cp) da ([(fA.drop (ab.kF x2))]:List ag) 1 rfl rfl zR
           have ds:=(eF.iD cX c' gL mj).c6
           obtain ⟨g7,f16,s3,ih⟩:=ds.bU (i:=3) rfl
           have f17:=ds.bl (i:=4) (k:=0) rfl rfl
           refine .ac (.append f16 Tryz.underlying23 dp rfl hr xm rfl rfl (f17) ol gA fun v2 g6 j4 ob dV eA i1=>?_)
           have fs:=(ih _ _ _ _ dV ob eA).c6
           clear eA
           refine .go 4 rfl ?_
           refine .z (.bZ (((k+1:Nat):Int)) rfl rfl iJ) ?_
           have eW:=(fs.dj [0,1,2,3] (by rfl) h').bu
           refine .ae 3 rfl ?_
           exact (fk _ _ _ ⟨(k+1:Nat),(v2:Value),((aN++[(fA.drop (ab.kF x2))]):List ag),rfl,rfl,eW,(by first|exact ps.JP pO hM (by assumption)|(exfalso; omega)),(by first|simp only [List.length_append,List.length_cons,List.length_nil]; omega|(exfalso; omega)),(by first|omega|(exfalso; omega))⟩ iJ).sub ⟨rfl,rfl,rfl,rfl,rfl,rfl,rfl,rfl,rfl,trivial⟩
          replace ck:=ck.symm
          obtain ⟨v2,iL,j2⟩:=ak.part (P:=Tryz.prog) dH Tryz.underlying23 dp hr (k) (df.length) (.inr ⟨.i64,((k:Nat):Int),rfl,by omega⟩) (.inl ⟨rfl,rfl⟩) iJ aU
          replace j2:ak cp w0 G v2 (df.drop k):=by simpa using j2
          refine .go 6 rfl ?_
          refine .z (.ss rfl rfl rfl rfl iL) ?_
          obtain ⟨lk,kl⟩:=ps.fin Hs
          have e9:=A6 cY bK
          refine .go 7 rfl ?_
          subst lk
          have wP:=qs.A5 cY
          have dK:=(eF.freeze (i:=3) rfl).bu
          have t_:=FY e9.2.2.1 e9.1 e9.2.1 iS.2 iS.1
          obtain ⟨zS,Lv,mY,ub,uc,lA,iT,mZ⟩:=dK.CV (i:=0) (j:=3) rfl rfl h'
          refine .ac (.aE DI rfl (n' f2 iJ mY (fun b U=>(lA b U).2) (C2 ub) uc iT (by simp only [List.length_append,List.length_cons]; omega) e9.2.2.1 e9.1 e9.2.1 iS.2 iS.1 (by simp only [List.length_append,List.length_cons]; omega) iJ) ?_)
          rintro _ hA ⟨rfl,cX,t2,fL,mi,zT,gC,m_⟩
          have ds:ar (fun _=>False) F w0 hA [bA [jR 283 264 238 iq ((s++(ay,[])::xs)++fL) ((aT++cc.mk false (cb.mk none 0 0)::fI)++t2),ig t2 fL],ig fI xs,bb eg 233 2 j1 dw,ff cp [(qt,(ee (cU x2) df))]]:=mZ _ _ _ cX gC m_
          have lB:=Gb gC
          clear mY ub uc lA iT mZ gC m_
          have fs:=(ds.un 0 rfl [1,2,3] (by rfl) h').c6
          have eW:=(fs.aN [1,2,3] 0 4 (by rfl) h').bu
          have fR:=(eW.ty (ig (fI++t2) (xs++fL)) 3 rfl (fun eS bN=>Ga bN)).bu
          have fB:=(fR.ty (jR 283 264 238 iq (s++(ay,[])::(xs++fL)) (aT++cc.mk false (cb.mk none 0 0)::(fI++t2))) 2 rfl (fun eS bN=>by simpa only [List.append_assoc,List.cons_append] using bN)).bu
          have o8:=xD (f2+1) (s++(ay,[])::xs) (ee (cU x2) df) e9.1
          rw [mi] at o8
          simp only [List.length_append,List.length_cons] at o8
          have rR:(eh (f2+1) (s++(ay,[])::xs) (ee (cU x2) df)).2 < ((s++(ay,[])::xs)++fL).length:=by rw [←mi]; exact A4 e9.2.2.1 e9.1 e9.2.1 iS.2
          simp only [List.length_append,List.length_cons] at rR
          refine .z (.build (vs:=#[(0,(.int .i32 (((ab.fm x2:Int))):Value)),(1,(.int .i64 ((((eh (f2+1) (s++(ay,[])::xs) (ee (cU x2) df)).2:Nat):Int)):Value))]) (v:=.agg #[.int .i32 (((ab.fm x2:Int))),.int .i64 ((((eh (f2+1) (s++(ay,[])::xs) (ee (cU x2) df)).2:Nat):Int))]) rfl (fun _=>by kernel_rfl)) ?_
          refine .ac (.buildSlice [(.agg #[.int .i32 (((ab.fm x2:Int))),.int .i64 ((((eh (f2+1) (s++(ay,[])::xs) (ee (cU x2) df)).2:Nat):Int))]:Value)] Tryz.underlying219 dY rfl rfl rfl h' fun j4 mF dV c' gL da=>?_)
          have mj:=ak.eP (enc:=eg) da ([(bm.mk (((ab.fm x2:Int))) ((((eh (f2+1) (s++(ay,[])::xs) (ee (cU x2) df)).2:Nat):Int)))]:List bm) 1 rfl rfl zR
          have ij:=(fB.iD dV c' gL mj).c6
          obtain ⟨g7,f15,s3,ih⟩:=ij.bU (i:=0) rfl
          have f16:=ij.bl (i:=4) (k:=0) rfl rfl
          refine .ac (.append f15 Tryz.underlying219 dY rfl j' tB rfl rfl (f16) ol gA fun v3 g6 lC ob fG eA i1=>?_)
          have h6:=(ih _ _ _ _ fG ob eA).c6
          clear eA
          have lZ:=(h6.dj [2,3,0] (by rfl) h').dM
          refine .ae 3 rfl ?_
          exact (bV _ _ _ ⟨(v2:Value),((df.drop k):List ag),(v3:Value),((dw++[(bm.mk (((ab.fm x2:Int))) ((((eh (f2+1) (s++(ay,[])::xs) (ee (cU x2) df)).2:Nat):Int)))]):List bm),((xs++fL):ch),((fI++t2):List cc),rfl,rfl,lZ,j2,Hr,Hp,Hq,(by first|rw [kl]; simp only [List.length_append]; omega|(exfalso; omega)),(by first|rw [kl]; simp only [List.length_append,List.length_cons,List.length_nil]; omega|(exfalso; omega)),(by first|simp only [List.length_append]; omega|(exfalso; omega))⟩ (by rw [kl]; omega)).sub ⟨rfl,rfl,rfl,rfl,rfl,trivial⟩
        refine .gd 12 rfl ?_
        refine .nil ?_
        obtain ⟨v2,fM,kj⟩:=ak.part (P:=Tryz.prog) dH Tryz.underlying23 dp hr (k) (df.length) (.inr ⟨.i64,((k:Nat):Int),rfl,by omega⟩) (.inl ⟨rfl,rfl⟩) iJ aU
        replace kj:ak cp w0 G v2 (df.drop k):=by simpa using kj
        refine .go 6 rfl ?_
        refine .z (.ss rfl rfl rfl rfl fM) ?_
        obtain ⟨lk,kl⟩:=ps.fin Hs
        have e9:=A6 cY bK
        refine .go 7 rfl ?_
        subst lk
        have wP:=qs.A5 cY
        have eF:=(dI.freeze (i:=3) rfl).bu
        have t_:=FY e9.2.2.1 e9.1 e9.2.1 iS.2 iS.1
        obtain ⟨zS,Lv,mY,ub,uc,lA,iT,mZ⟩:=eF.CV (i:=0) (j:=3) rfl rfl h'
        refine .ac (.aE DI rfl (n' f2 iJ mY (fun b U=>(lA b U).2) (C2 ub) uc iT (by simp only [List.length_append,List.length_cons]; omega) e9.2.2.1 e9.1 e9.2.1 iS.2 iS.1 (by simp only [List.length_append,List.length_cons]; omega) iJ) ?_)
        rintro _ gi ⟨rfl,cG,t2,fL,mi,zT,gC,m_⟩
        have dK:ar (fun _=>False) F w0 gi [bA [jR 283 264 238 iq ((s++(ay,[])::xs)++fL) ((aT++cc.mk false (cb.mk none 0 0)::fI)++t2),ig t2 fL],ig fI xs,bb eg 233 2 j1 dw,ff cp [(qt,(ee (cU x2) df))]]:=mZ _ _ _ cG gC m_
        have lB:=Gb gC
        clear mY ub uc lA iT mZ gC m_
        have ds:=(dK.un 0 rfl [1,2,3] (by rfl) h').c6
        have fs:=(ds.aN [1,2,3] 0 4 (by rfl) h').bu
        have eW:=(fs.ty (ig (fI++t2) (xs++fL)) 3 rfl (fun eS bN=>Ga bN)).bu
        have fR:=(eW.ty (jR 283 264 238 iq (s++(ay,[])::(xs++fL)) (aT++cc.mk false (cb.mk none 0 0)::(fI++t2))) 2 rfl (fun eS bN=>by simpa only [List.append_assoc,List.cons_append] using bN)).bu
        have o8:=xD (f2+1) (s++(ay,[])::xs) (ee (cU x2) df) e9.1
        rw [mi] at o8
        simp only [List.length_append,List.length_cons] at o8
        have rR:(eh (f2+1) (s++(ay,[])::xs) (ee (cU x2) df)).2 < ((s++(ay,[])::xs)++fL).length:=by rw [←mi]; exact A4 e9.2.2.1 e9.1 e9.2.1 iS.2
        simp only [List.length_append,List.length_cons] at rR
        refine .z (.build (vs:=#[(0,(.int .i32 (((ab.fm x2:Int))):Value)),(1,(.int .i64 ((((eh (f2+1) (s++(ay,[])::xs) (ee (cU x2) df)).2:Nat):Int)):Value))]) (v:=.agg #[.int .i32 (((ab.fm x2:Int))),.int .i64 ((((eh (f2+1) (s++(ay,[])::xs) (ee (cU x2) df)).2:Nat):Int))]) rfl (fun _=>by kernel_rfl)) ?_
        refine .ac (.buildSlice [(.agg #[.int .i32 (((ab.fm x2:Int))),.int .i64 ((((eh (f2+1) (s++(ay,[])::xs) (ee (cU x2) df)).2:Nat):Int))]:Value)] Tryz.underlying219 dY rfl rfl rfl h' fun hA h5 cX ck gL da=>?_)
        have jM:=ak.eP (enc:=eg) da ([(bm.mk (((ab.fm x2:Int))) ((((eh (f2+1) (s++(ay,[])::xs) (ee (cU x2) df)).2:Nat):Int)))]:List bm) 1 rfl rfl zR
        have hB:=(fR.iD cX ck gL jM).c6
        obtain ⟨g7,f15,j2,ih⟩:=hB.bU (i:=0) rfl
        have f16:=hB.bl (i:=4) (k:=0) rfl rfl
        refine .ac (.append f15 Tryz.underlying219 dY rfl j' tB rfl rfl (f16) ol gA fun v3 g6 j4 ob dV eA i1=>?_)
        have ij:=(ih _ _ _ _ dV ob eA).c6
        clear eA
        have h6:=(ij.dj [2,3,0] (by rfl) h').dM
        refine .ae 3 rfl ?_
        exact (bV _ _ _ ⟨(v2:Value),((df.drop k):List ag),(v3:Value),((dw++[(bm.mk (((ab.fm x2:Int))) ((((eh (f2+1) (s++(ay,[])::xs) (ee (cU x2) df)).2:Nat):Int)))]):List bm),((xs++fL):ch),((fI++t2):List cc),rfl,rfl,h6,kj,Hr,Hp,Hq,(by first|rw [kl]; simp only [List.length_append]; omega|(exfalso; omega)),(by first|rw [kl]; simp only [List.length_append,List.length_cons,List.length_nil]; omega|(exfalso; omega)),(by first|simp only [List.length_append]; omega|(exfalso; omega))⟩ (by rw [kl]; omega)).sub ⟨rfl,rfl,rfl,rfl,rfl,trivial⟩
    refine .ae 1 rfl ?_
    obtain ⟨⟨sg,wS,qu⟩,cz⟩:=cq.iO (i:=0) rfl
    change ar (fun _=>False) F w0 dv [bA [az iq [ptr sg 0,.map (some wS)] 283,az sg [qu] 264,kb aH fo wS (kG ((s++(ay,[])::xs))),bb eR 238 2 qu ((aT++cc.mk false (cb.mk none 0 0)::fI))],ig fI xs,bb eg 233 2 j1 dw] at cz
    have cS:=(cz.un 0 rfl [1,2] (by rfl) h').n6
    refine .go 6 rfl ?_
    have f14:=cS.k 2
    refine .a_ x' pI f14 ?_
    refine .go 1 rfl ?_
    have f15:=cS.k 3
    refine .a_ mV mU f15 ?_
    obtain ⟨g6,f16,jy,ih⟩:=cS.bU (i:=1) rfl
    obtain ⟨dN,dO,ju⟩:=f16.shape
    refine .go 3 rfl ?_
    subst ju
    refine .z (.build (vs:=#[(0,(.bool false:Value)),(1,(.slice dN dw.length dO))]) (v:=.agg #[.bool false,(.slice dN dw.length dO)]) rfl (fun _=>by kernel_rfl)) ?_
    obtain ⟨g7,f17,kj,nV⟩:=cS.bU (i:=5) rfl
    obtain ⟨c_,x2,cY⟩:=Acc.at (P:=Tryz.prog) f17 Tryz.underlying262 iQ (k:=.i64) (n:=((aT.length:Nat):Int)) (aT.length) iJ Ht
    refine .z (.indexAddr rfl rfl c_) ?_
    refine .ac (.rT f17 l9 (i:=aT.length) (o:=0) cY ((cc.mk false (cb.mk dN dw.length dO))) iQ rfl (by first|omega|rfl) rfl rfl rfl rfl h' (by first|rfl|simp [eR]) fun en b3 gL ob=>?_)
    have jM:(((aT++cc.mk false (cb.mk none 0 0)::fI)).set aT.length ((cc.mk false (cb.mk dN dw.length dO)))).length=((aT++cc.mk false (cb.mk none 0 0)::fI)).length:=List.length_set
    have dd:=(nV _ _ _ _ b3 ob (.inl rfl)).n6
    refine .ae 6 rfl ?_
    refine aL Tryz.func194 rfl rfl ?_
    have DS:df=[]:=List.eq_nil_of_length_eq_zero iJ
    subst DS
    have yd:=JN oI qs.fin
    have dI:=(dd.ty (bb eR 238 2 qu ((aT++(cc.mk false (cb.mk dN dw.length dO))::fI))) 5 rfl (fun eS bN=>by rw [show (((aT++cc.mk false (cb.mk none 0 0)::fI)).set aT.length ((cc.mk false (cb.mk dN dw.length dO))))=(aT++(cc.mk false (cb.mk dN dw.length dO))::fI) from by simp [List.set_append_right,hlen]] at bN; exact bN)).n6
    have eF:=(dI.ty (kb aH fo wS ((kG (s++(ay,dw)::xs)))) 4 rfl (fun eS bN=>by rw [show kG (s++(ay,[])::xs)=kG (s++(ay,dw)::xs) from Qh _ _ _ _ _] at bN; exact bN)).n6
    have dK:=(eF.bj [0,1] 2 3 4 5 (by rfl) h').dM
    have ds:ar (fun _=>False) F w0 en [ig fI xs,bb eg 233 2 ((.slice dN dw.length dO)) dw,jR 283 264 238 iq (s++(ay,dw)::xs) (aT++(cc.mk false (cb.mk dN dw.length dO))::fI)]:=dK.hJ (sg,wS,qu) (i:=2) rfl
    have fs:=(ds.aN [2] 1 0 (by rfl) (by decide)).cK
    have eW:=(fs.ty (ig ((cc.mk false (cb.mk dN dw.length dO))::fI) ((ay,dw)::xs)) 1 rfl (fun eS bN=>QH rfl t'.2.symm bN)).cK
    have fR:=(eW.aN [] 0 1 (by rfl) (by decide)).cJ
    obtain ⟨cD,cO,j5,hD⟩:=fR.fin
    exact aj.mk ⟨by rw [yd]; simp [hlen],cD,(cc.mk false (cb.mk dN dw.length dO))::fI,(ay,dw)::xs,by rw [yd],cO,j5,hD⟩
 | some i0 =>
  have pN:fH (kG s) (oy ay)=some (i0:Int):=by rw [PS aO.CN cA s DR,oI]; rfl
  refine .z (.Ql (key:=aH) (val:=fo) (Ju Tryz.underlying9) Tryz.underlying281 Tryz.zeroValue3 rfl rfl (fun _ e=>e▸f2) pN) ?_
  refine .ae 16 rfl ?_
  refine aL Tryz.func194 rfl rfl ?_
  have b2:=(bJ.bj [] 0 1 2 3 (by rfl) (by decide)).cJ
  have bP:ar (fun _=>False) F w0 ai [jR 283 264 238 iq s aT]:=b2.hJ (yb,wQ,rb) (i:=0) rfl
  have bo:ar (fun _=>False) F w0 ai [jR 283 264 238 iq s aT,ig [] []]:=bP.new (Mod.refl _ _) (F:=fun _=>False) (cx.nil:mB _ _ [] []) (fun _ h=>h.elim)
  have bR:=(bo.ty (jR 283 264 238 iq (s++[]) (aT++[])) 0 rfl (fun eS bN=>by simpa using bN)).cK
  have cv:=(bR.aN [] 0 1 (by rfl) (by decide)).cJ
  obtain ⟨cD,cO,j5,hD⟩:=cv.fin
  exact aj.mk ⟨by rw [FZ oI]; rfl,cD,[],[],by rw [FZ oI]; simp,cO,j5,hD⟩
end Go.Proofs
namespace Go.Proofs
open Go.aA Go.ab
theorem Ub {w0:World}  {j0:Value} {words:List ag} (k8:ak cp w0 (aR 0 w0.heap.size) j0 words) (c7:ab.uW words) (dr:words.length≤1000000) :
 Calls Tryz.prog 171 #[j0] w0 (aj fun aD ai=>∃ ec fF,aD=.tuple #[ec,fF]∧(∃ cn al,gp 0 ai cn al ec (ab.gI words)∧w0.heap.size≤cn∧al≤ai.heap.size)∧fF=.int .i64 (ab.eD words)∧Ext w0 ai):=by
 have akE:=k8.le;have dz:=ar.hR w0;refine bS Tryz.func171 rfl Tryz.ntmps171 rfl (.go 9 rfl (.ac (.aE TE rfl (TY (w0:=w0) (words:=words)  k8 (by assumption)) ?_)));rintro _ ai ⟨rfl,au⟩;have cP:=dz.ext au;have:=ab.uX words;refine .go 5 rfl (.lW (.ne rfl rfl) (fun aJ=>?_) fun aJ=>?_)
 · exact .ae 8 rfl (bM Tryz.func171 rfl rfl rfl (aj.mk ⟨_,_,rfl,⟨w0.heap.size,w0.heap.size,.inl ⟨rfl,Za (by assumption)⟩,Nat.le_refl _,cP.mod.size⟩,rfl,cP.mod⟩))
 refine .go 5 rfl (.z (.build (vs:=#[]) (v:=.agg #[.slice none 0 0]) rfl (fun _=>by kernel_rfl)) (have ml:eD words=0:=(by assumption);have im:=rS ml;have ud:=CX ml;.ac (.box [.slice none 0 0] rfl rfl fun aZ aN ax aK c9 a1=>?_)));have bJ:=(cP.dm ax aK a1).cJ;refine .ac (.makeMap (key:=aH) (val:=fo) fun bz bn aM aV eY bH=>have bP:=(bJ.P5 aM aV bH).cK;.z (.build (vs:=#[(0,ptr aN 0),(1,(.map (some bn):Value))]) (v:=.agg #[ptr aN 0,.map (some bn)]) rfl (fun _=>by kernel_rfl)) (.ac (.box [ptr aN 0,.map (some bn)] rfl rfl fun cj bj aW bc gh cE=>?_)));have bR:=(bP.dm aW bc cE).dM;have f1:=bR.out k8 (fun _ _ h=>h);refine .go 6 rfl (.z (.ca Tryz.underlying23 (f1) rfl) (.h8 (.eq rfl rfl) (fun cy=>?_) fun cy=>?_))
 · refine .go 6 rfl (have f2:=bR.k 2;.a_ x' pI f2 (.z (.build (vs:=#[]) (v:=.agg #[.bool false,.slice none 0 0]) rfl (fun _=>by kernel_rfl)) ?_));refine .ac (.buildSlice [(.agg #[.bool false,.slice none 0 0]:Value)] Tryz.underlying262 iQ rfl rfl rfl (by decide) fun cM c8 bh ck gT da=>have b6:=ak.eP (enc:=eR) da ([(cc.mk false (cb.mk none 0 0))]:List cc) 1 rfl rfl (by unfold maxLen; omega);have cI:=(bR.iD bh ck gT b6).bu;.go 1 rfl (.z (.fieldAddr mV rfl) ?_));have f3:=cI.k 0;refine .ac (.st mU f3 fun de bQ eT=>have b8:=(cI.cL (cs':=[(.slice (some ⟨c8,0,none⟩) 1 1)]) (i:=0) rfl bQ eT).bu;.go 5 rfl (have f4:=b8.k 2;.a_ x' pI f4 ?_));exact .ae 3 rfl (bM Tryz.func171 rfl rfl rfl (have bW:=(b8.dj [0,3] (by rfl) (by decide)).cK;have afa:words=[]:=List.eq_nil_of_length_eq_zero (by omega);aj.mk ⟨_,_,rfl,⟨w0.heap.size,_,by rw [F1 afa]; exact bW.h2,Nat.le_refl _,Nat.le_refl _⟩,(congrArg (Value.int .i64) ml.symm),bW.mod⟩))
 refine .ae 1 rfl ?_;have Lw:words≠[]:=fun e=>by subst e; simp at *
 have cv:ar (fun _=>False) (fun _=>False) w0 cj [az aN [.slice none 0 0] 264,kb aH fo bn [],az bj [ptr aN 0,.map (some bn)] 283,bb eR 238 2 (.slice none 0 0) []]:=bR.fU (Mod.refl _ _) Acc.nil (.inl rfl);change ar (fun _=>False) (fun _=>False) w0 cj [az aN [.slice none 0 0] 264,kb aH fo bn ((kG [])),az bj [ptr aN 0,.map (some bn)] 283,bb eR 238 2 (.slice none 0 0) []] at cv;have cI:=(cv.bj [] 2 0 1 3 (by rfl) (by decide)).cJ;have b8:ar (fun _=>False) (fun _=>False) w0 cj [jR 283 264 238 bj [] []]:=cI.hJ (aN,bn,.slice none 0 0) (i:=0) rfl;have f2:=b8.out k8 (fun _ _ h=>h);obtain ⟨zS,mY,lA,mZ⟩:=b8.act (i:=0) rfl;refine .go 6 rfl (.ac (.aE DI rfl (ae8 12 (G:=aR 0 w0.heap.size) mY (fun b U=>(lA b U).2) f2 (Zo lA) (fun b U=>Nat.lt_of_lt_of_le U.2 b8.mod.size) rfl im.2 im.1 Lw (by simp [names]) (by simp [u5]) (by simp only [List.length_nil]; omega) (by omega)) ?_));rintro _ cM ⟨rfl,bh,t2,fL,mi,zT,gC,m_⟩;have bW:ar (fun _=>False) (fun _=>False) w0 cM [bA [jR 283 264 238 bj ([]++fL) ([]++t2),ig t2 fL]]:=mZ _ _ _ bh gC m_;have ct:=(bW.un 0 rfl [] (by rfl) (by decide)).cK;have cq:=(ct.ty (jR 283 264 238 bj fL t2) 0 rfl (fun eS bN=>by simpa only [List.nil_append] using bN)).cK;obtain ⟨⟨yb,wQ,rb⟩,bF⟩:=cq.iO (i:=0) rfl;change ar (fun _=>False) (fun _=>False) w0 cM [bA [az bj [ptr yb 0,.map (some wQ)] 283,az yb [rb] 264,kb aH fo wQ (kG fL),bb eR 238 2 rb t2],ig t2 fL] at bF;have cg:=(bF.un 0 rfl [1] (by rfl) (by decide)).c6;refine .go 5 rfl (have f3:=cg.k 1;.a_ x' pI f3 (.ae 3 rfl ?_));exact bM Tryz.func171 rfl rfl rfl (have cz:=(cg.dj [2,4,0] (by rfl) (by decide)).dM;have hI:(eh 13 [] words).1=rP words:=rfl;have Uc:fL=rP words:=(by rw [←hI,mi]; simp);have zq:gI words=fa fL:=(by rw [sD ml,Uc]; unfold nv; rw [if_neg Lw]);have i_:fL≠[]:=(fun e=>by have:=(AW im.2 im.1 Lw).root; rw [←Uc,e] at this; simp at this);aj.mk ⟨_,_,rfl,⟨w0.heap.size,_,by rw [zq]; exact cz.cZ i_,Nat.le_refl _,Nat.le_refl _⟩,(congrArg (Value.int .i64) ml.symm),cz.mod⟩)
end Go.Proofs
namespace Go.Proofs
open Go.aA Go.ab
theorem fY {p:Prop} (h:p:=by omega):p:=h
theorem Hv {p:Prop} (h:p:=by first|(rw [QB rfl]; done)|(rw [QB rfl])|rfl|(rw [JW (by assumption),QA hO (by omega)]; rfl)|exact QC (by assumption)|(exfalso; omega)):p:=h
theorem vt {p:Prop} (h:p:=by first|omega|decide):p:=h
theorem Ud {p:Prop} (h:p:=by first|exact C0 hO ue (by rw [if_pos (by assumption)])|exact C0 hO ue (by rw [if_neg (by simp [*])])):p:=h
theorem afb {w0:World}  {h_:Value} {fX ew:Nat} {g:List bC} (o7:gp 0 w0 fX ew h_ g) (wM:ew≤w0.heap.size) (q1:g.length≤1000000) (gZ:∀ x∈g,x.2.length≤1000000) (lH:∀ x∈g,∀ e∈x.2,bp e.to∧-2147483648≤e.rune∧e.rune≤2147483647) (tV:(gq g).length≤3000000) :
 Calls Tryz.prog 172 #[h_] w0 (aj fun aD ai=>∃ ec fF,aD=.tuple #[ec,fF]∧(∃ cZ,Acc dR 5 1 ai cZ ec (xF g)∧(cZ=0∨w0.heap.size < cZ))∧fF=.int .i64 (F9 g)∧Ext w0 ai):=by
 have ba:Ext w0 w0:=Mod.refl _ _;refine bS Tryz.func172 rfl Tryz.ntmps172 rfl (have n9:=o7;.go 9 rfl ?_);rcases o7 with ⟨ej,qq⟩|⟨aG,wN,hz,ej,qq,sY,BP,tZ⟩
 · subst ej;try subst qq
   exact .z (.nr Tryz.underlying99 rfl rfl) (.ae 7 rfl (bM Tryz.func172 rfl rfl rfl (aj.mk ⟨_,_,rfl,⟨0,Acc.cast Acc.nil Hv,.inl rfl⟩,(congrArg (Value.int .i64) Hv),ba⟩)))
 · subst ej;have Lr:=(cx.get tZ).1;refine .z (.nr Tryz.underlying99 rfl rfl) (.go 5 rfl (.ac (.buildSlice [(.int .u8 73:Value),(.int .u8 78:Value),(.int .u8 75:Value),(.int .u8 49:Value)] Tryz.underlying120 jW rfl rfl rfl (by decide) fun ai aN au aJ c9 a1=>have f1:=n9.ext au;have f2:=tZ.ext au;have f3:=BP.ext au;have f4:=sY.ext au;have bf:=ba.ext au;have dW:=au.size;have b6:=ak.eP (enc:=dR) a1 ([(73:UInt8),(78:UInt8),(75:UInt8),(49:UInt8)]:List UInt8) 4 rfl rfl (by unfold maxLen; omega);.ac (.Y5 Tryz.underlying120 Tryz.underlying5 rfl a1 fun aZ ax eY vu=>have f5:=f1.bt ax (by omega);have f6:=f2.bt ax (by omega);have f7:=f3.bt ax (by omega);have f8:=f4.bt ax (by omega);have bk:=Ext.hq bf ax (by omega);have e7:=ax.size;have dG:ak dR aZ (aR aN (aN+1)) (.slice (some ⟨aN,0,none⟩) 4 4) [(73:UInt8),(78:UInt8),(75:UInt8),(49:UInt8)]:=ak.Y6 (enc:=dR) (l:=[(73:UInt8),(78:UInt8),(75:UInt8),(49:UInt8)]) vu 4 rfl (by unfold maxLen; omega);.go 1 rfl (.ac (.aE Ld rfl (Lq (w0:=aZ)   f5 fY) ?_))))));rintro _ bz ⟨rfl,aM⟩;have f9:=f5.ext aM;have f10:=f6.ext aM;have f11:=f7.ext aM;have f12:=f8.ext aM;have f13:=dG.ext aM;have bD:=bk.ext aM;have hx:=aM.size;refine .ac (.aE vq rfl (vr (w0:=bz) (b:=[(73:UInt8),(78:UInt8),(75:UInt8),(49:UInt8)]) ((((g.length:Nat):Int))) (2) ((f13).b0 (Nat.zero_le _) fY) (by first|assumption|omega|(simp only [List.length_append,eM,List.length_cons,List.length_nil]; omega)) vt) ?_);rintro v1 cj ⟨⟨h2,h1,cf⟩,aW⟩;have f14:=f9.ext aW;have f15:=f10.ext aW;have f16:=f11.ext aW;have f17:=f12.ext aW;have ek:=bD.ext aW;have je:=aW.size;have jl:=h1.le;have q8:=h1.lt;have:=eM ((((g.length:Nat):Int))) 2;refine .go 6 rfl (.ac (.aE Ld rfl (Lq (w0:=cj)   f14 fY) ?_));rintro _ cM ⟨rfl,bh⟩;have e1:=h1.lt;have f19:=f14.ext bh;have f20:=f15.ext bh;have f21:=f16.ext bh;have f22:=f17.ext bh;have f24:=h1.ext bh;have fq:=ek.ext bh;have lv:=bh.size;refine .ae 3 rfl (dU (I:=fun m E W=>∃ (qn:Value) (mf:Nat) (out:List UInt8) (i:Nat),E=[(0,ptr aG 0),(4,qn),(18,.int .i64 ((((g.length:Nat):Int)))),(19,.int .i64 (((i:Nat):Int)))]∧m=g.length-i∧Ext w0 W∧cM.heap.size≤W.heap.size∧Acc dR 5 1 W mf qn out∧(mf=0∨w0.heap.size < mf)∧iV W fX ew aG [wN]∧ak eR W (aR fX ew) wN hz∧iC W (aR fX ew) hz g∧gp 0 W fX ew ((ptr aG 0)) g∧(mf≤fX∨ew < mf)∧(out++(g.drop i).flatMap jk=gq g)∧(i≤g.length)) ?_ ?_)
   · refine ⟨_,_,⟨(v1:Value),(h2:Nat),((([(73:UInt8),(78:UInt8),(75:UInt8),(49:UInt8)])++eJ ((((g.length:Nat):Int))) 2):List UInt8),(0:Nat),rfl,rfl,fq,Nat.le_refl _,f24,fY,f22,f21,f20,f19,fY,(by exact Qz g),fY⟩,⟨rfl,rfl,rfl,rfl,trivial⟩⟩
   · rintro _ _ de ⟨qn,mf,out,i,rfl,rfl,h9,o6,b7,eA,f25,f26,f27,f28,nU,hO,pn⟩ bV;have jT:=xE hO;refine .go 2 rfl (.aX (.lt rfl rfl) (fun aK=>?_) fun aK=>?_)
     · refine .ae 2 rfl (have ue:=Zj (g:=g) (i:=i) (by omega);have Ue:=JV hO ue;have wO:=A0 gZ (i:Int);.go 18 rfl (.ac (.aE TN rfl (T' (w0:=de)  (((i:Nat):Int)) f28 fY cu (by first|assumption|omega|(simp; done))) ?_)));rintro _ dv ⟨⟨bj,aV,rfl⟩,bQ⟩;have f':=b7.lt;have f29:=b7.ext bQ;have f30:=f25.ext bQ;have f31:=f26.ext bQ;have f32:=f27.ext bQ;have f33:=f28.ext bQ;have jm:=h9.ext bQ;have qp:=bQ.size;refine .ae 1 rfl ?_;cases bj
       case true =>
        replace aV:=aV.symm;refine .go 8 rfl (.ac (.aE vq rfl (vr (w0:=dv) (b:=out) (1) (1) ((f29.bl).b0 (Nat.zero_le _) fY) (by first|assumption|omega|(simp only [List.length_append,eM,List.length_cons,List.length_nil]; omega)) vt) ?_));rintro v2 en ⟨⟨oc,aa,iG⟩,b3⟩;have hU:=f29.lt;have f34:=f29.ext b3;have f35:=f30.ext b3;have f36:=f31.ext b3;have f37:=f32.ext b3;have f38:=f33.ext b3;have mW:=jm.ext b3;have wL:=b3.size;have n_:=aa.le;have ye:=aa.lt;have:=eM 1 1;refine .go 6 rfl (.ac (.aE BM rfl (BQ (w0:=en)  (((i:Nat):Int)) f38 fY cu (by first|assumption|omega|(simp; done)) (by first|assumption|(simp; done))) ?_));rintro v3 eE ⟨⟨qv,aq,zU⟩,cF⟩;have h4:=f34.lt;have jy:=aa.lt;have f39:=f34.ext cF;have f40:=f35.ext cF;have f41:=f36.ext cF;have f42:=f37.ext cF;have f43:=f38.ext cF;have f44:=aa.ext cF;have sX:=mW.ext cF;have DO:=cF.size;have s4:=aq.le;have Hw:=aq.lt;refine .go 6 rfl (.z (.ca Tryz.underlying219 (aq.bl) rfl) (.ac (.aE vq rfl (vr (w0:=eE) (b:=(out++eJ 1 1)) ((((((nodeAt g (((i:Nat):Int))).2)).length:Nat):Int)) (2) ((f44.bl).b0 (Nat.zero_le _) fY) (by first|assumption|omega|(simp only [List.length_append,eM,List.length_cons,List.length_nil]; omega)) vt) ?_)));rintro v4 eO ⟨⟨DT,a6,Lx⟩,cG⟩;have kj:=f39.lt;have jM:=f44.lt;have j2:=aq.lt;have f46:=f40.ext cG;have f47:=f41.ext cG;have f48:=f42.ext cG;have f49:=f43.ext cG;have f51:=aq.ext cG;have tY:=sX.ext cG;have DP:=cG.size;have Ly:=a6.le;have Lz:=a6.lt;have:=eM ((((((nodeAt g (((i:Nat):Int))).2)).length:Nat):Int)) 2;refine .go 5 rfl (.z (.ca Tryz.underlying219 (f51.bl) rfl) (.ae 3 rfl (dU (I:=fun m E W=>∃ (od:Value) (jo:Nat) (jN:List UInt8) (k:Nat),E=[(0,ptr aG 0),(4,od),(18,.int .i64 ((((g.length:Nat):Int)))),(19,.int .i64 (((i:Nat):Int))),(35,v3),(36,.int .i64 ((((((nodeAt g (((i:Nat):Int))).2)).length:Nat):Int))),(37,.int .i64 (((k:Nat):Int)))]∧m=(nodeAt g (i:Int)).2.length-k∧Ext w0 W∧eO.heap.size≤W.heap.size∧Acc dR 5 1 W jo od jN∧(jo=0∨w0.heap.size < jo)∧iV W fX ew aG [wN]∧ak eR W (aR fX ew) wN hz∧iC W (aR fX ew) hz g∧gp 0 W fX ew ((ptr aG 0)) g∧Acc eg 233 2 W qv v3 (((nodeAt g (((i:Nat):Int))).2))∧(jo≤fX∨ew < jo)∧(jo≠qv∨qv=0)∧(jN++(((nodeAt g (i:Int)).2.drop k).flatMap kI++(g.drop (i+1)).flatMap jk)=gq g)∧(k≤(nodeAt g (i:Int)).2.length)) ?_ ?_)))
        · refine ⟨_,_,⟨(v4:Value),(DT:Nat),((((out++eJ 1 1))++eJ ((((((nodeAt g (((i:Nat):Int))).2)).length:Nat):Int)) 2):List UInt8),(0:Nat),rfl,rfl,tY,Nat.le_refl _,a6,fY,f46,f47,f48,f49,f51,fY,fY,Ud,fY⟩,⟨rfl,rfl,rfl,rfl,rfl,rfl,rfl,trivial⟩⟩
        · rintro _ _ gi ⟨od,jo,jN,k,rfl,rfl,s5,Hx,dH,LA,f52,f53,f54,f55,f56,zV,o9,oe,n4⟩ fk;have LB:=xE oe;refine .go 2 rfl (.aX (.lt rfl rfl) (fun bc=>?_) fun bc=>?_)
          · refine .ae 2 rfl ?_;obtain ⟨aw,c8,fE,a7,bK,mj,iR,cV⟩:=ak.ft (P:=Tryz.prog) f56.bl Tryz.underlying219 dY j' (k:=.i64) (n:=((k:Nat):Int)) (k) fY aU;refine .go 6 rfl (.z (.indexAddr rfl rfl bK) (.z (.c4 dY rfl (fun _ e=>e▸cV) rfl) ?_));have h4:=F8 oe a7;have yf:=lH _ (List.mem_of_getElem? ue) _ (List.mem_of_getElem? a7);refine .ac (.alloc dY fun hA hy cX cy gh bH=>have s3:=dH.lt;have yc:=f56.lt;have f57:=dH.ext cX;have f58:=f52.ext cX;have f59:=f53.ext cX;have f60:=f54.ext cX;have f61:=f55.ext cX;have f62:=f56.ext cX;have vv:=s5.ext cX;have Hy:=cX.size;.ac (.store dY rfl rfl rfl rfl rfl bH dx fun j4 dV gT cE=>?_));replace cE:ez j4 hy [.int .i32 aw.rune,.int .i64 aw.to] 233:=cE;have BS:=f57.lt;have DU:=f62.lt;have f63:=f57.bt dV (by omega);have f64:=f58.bt dV (by omega);have f65:=f59.bt dV (by omega);have f66:=f60.bt dV (by omega);have f67:=f61.bt dV (by omega);have f68:=f62.bt dV (by omega);have wT:=Ext.hq vv dV (by omega);have Hz:=dV.size;refine .go 4 rfl (.a_ pK hn cE (.z (.np (by kernel_rfl) Tryz.underlying3 rfl (IntWalk.i64_in _ fY)) (.ac (.aE vq rfl (vr (w0:=j4) (b:=jN) (aw.rune) (4) ((f63.bl).b0 (Nat.zero_le _) fY) (by first|assumption|omega|(simp only [List.length_append,eM,List.length_cons,List.length_nil]; omega)) vt) ?_))));rintro v5 lC ⟨⟨DV,bT,LC⟩,fG⟩;have DW:=f63.lt;have afc:=f68.lt;have f69:=f63.ext fG;have f70:=f64.ext fG;have f71:=f65.ext fG;have f72:=f66.ext fG;have f73:=f67.ext fG;have f74:=f68.ext fG;have f75:=cE.ext fG;have LD:=wT.ext fG;have afd:=fG.size;have LF:=bT.le;have LG:=bT.lt;have:=eM aw.rune 4;refine .go 4 rfl (.a_ pL aP f75 (.ac (.aE vq rfl (vr (w0:=lC) (b:=(jN++eJ aw.rune 4)) (aw.to) (2) ((bT.bl).b0 (Nat.zero_le _) fY) (by first|assumption|omega|(simp only [List.length_append,eM,List.length_cons,List.length_nil]; omega)) vt) ?_)));rintro v6 rh ⟨⟨LH,ed,afe⟩,hV⟩;have aff:=f69.lt;have afg:=f74.lt;have afh:=bT.lt;have f77:=f70.ext hV;have f78:=f71.ext hV;have f79:=f72.ext hV;have f80:=f73.ext hV;have f81:=f74.ext hV;have LI:=LD.ext hV;have afi:=hV.size;have LJ:=ed.le;have afj:=ed.lt;have:=eM aw.to 2;exact .go 4 rfl (.z (.bZ (((k+1:Nat):Int)) rfl rfl fY) (.ae 2 rfl ((fk _ _ _ ⟨(v6:Value),(LH:Nat),((((jN++eJ aw.rune 4))++eJ aw.to 2):List UInt8),(k+1:Nat),rfl,rfl,LI,fY,ed,fY,f77,f78,f79,f80,f81,fY,fY,(by first|exact C1 oe a7|(exfalso; omega)),(by first|omega|(exfalso; omega))⟩ fY).sub ⟨rfl,rfl,rfl,rfl,rfl,rfl,rfl,trivial⟩)))
          exact .go 6 rfl (.z (.bZ (((i+1:Nat):Int)) rfl rfl fY) (.ae 2 rfl ((bV _ _ _ ⟨(od:Value),(jo:Nat),(jN:List UInt8),(i+1:Nat),rfl,rfl,s5,fY,dH,fY,f52,f53,f54,f55,fY,(by first|exact F7 oe fY|(exfalso; omega)),(by first|omega|(exfalso; omega))⟩ fY).sub ⟨rfl,rfl,rfl,rfl,trivial⟩)))
       replace aV:=aV.symm;refine .go 6 rfl (.ac (.aE vq rfl (vr (w0:=dv) (b:=out) (0) (1) ((f29.bl).b0 (Nat.zero_le _) fY) (by first|assumption|omega|(simp only [List.length_append,eM,List.length_cons,List.length_nil]; omega)) vt) ?_));rintro v2 en ⟨⟨oc,aa,iG⟩,b3⟩;have hU:=f29.lt;have f34:=f29.ext b3;have f35:=f30.ext b3;have f36:=f31.ext b3;have f37:=f32.ext b3;have f38:=f33.ext b3;have mW:=jm.ext b3;have wL:=b3.size;have n_:=aa.le;have ye:=aa.lt;have:=eM 0 1;refine .go 6 rfl (.ac (.aE BM rfl (BQ (w0:=en)  (((i:Nat):Int)) f38 fY cu (by first|assumption|omega|(simp; done)) (by first|assumption|(simp; done))) ?_));rintro v3 eE ⟨⟨qv,aq,zU⟩,cF⟩;have h4:=f34.lt;have jy:=aa.lt;have f39:=f34.ext cF;have f40:=f35.ext cF;have f41:=f36.ext cF;have f42:=f37.ext cF;have f43:=f38.ext cF;have f44:=aa.ext cF;have sX:=mW.ext cF;have DO:=cF.size;have s4:=aq.le;have Hw:=aq.lt;refine .go 6 rfl (.z (.ca Tryz.underlying219 (aq.bl) rfl) (.ac (.aE vq rfl (vr (w0:=eE) (b:=(out++eJ 0 1)) ((((((nodeAt g (((i:Nat):Int))).2)).length:Nat):Int)) (2) ((f44.bl).b0 (Nat.zero_le _) fY) (by first|assumption|omega|(simp only [List.length_append,eM,List.length_cons,List.length_nil]; omega)) vt) ?_)));rintro v4 eO ⟨⟨DT,a6,Lx⟩,cG⟩;have kj:=f39.lt;have jM:=f44.lt;have j2:=aq.lt;have f46:=f40.ext cG;have f47:=f41.ext cG;have f48:=f42.ext cG;have f49:=f43.ext cG;have f51:=aq.ext cG;have tY:=sX.ext cG;have DP:=cG.size;have Ly:=a6.le;have Lz:=a6.lt;have:=eM ((((((nodeAt g (((i:Nat):Int))).2)).length:Nat):Int)) 2;refine .go 5 rfl (.z (.ca Tryz.underlying219 (f51.bl) rfl) (.ae 3 rfl (dU (I:=fun m E W=>∃ (od:Value) (jo:Nat) (jN:List UInt8) (k:Nat),E=[(0,ptr aG 0),(4,od),(18,.int .i64 ((((g.length:Nat):Int)))),(19,.int .i64 (((i:Nat):Int))),(35,v3),(36,.int .i64 ((((((nodeAt g (((i:Nat):Int))).2)).length:Nat):Int))),(37,.int .i64 (((k:Nat):Int)))]∧m=(nodeAt g (i:Int)).2.length-k∧Ext w0 W∧eO.heap.size≤W.heap.size∧Acc dR 5 1 W jo od jN∧(jo=0∨w0.heap.size < jo)∧iV W fX ew aG [wN]∧ak eR W (aR fX ew) wN hz∧iC W (aR fX ew) hz g∧gp 0 W fX ew ((ptr aG 0)) g∧Acc eg 233 2 W qv v3 (((nodeAt g (((i:Nat):Int))).2))∧(jo≤fX∨ew < jo)∧(jo≠qv∨qv=0)∧(jN++(((nodeAt g (i:Int)).2.drop k).flatMap kI++(g.drop (i+1)).flatMap jk)=gq g)∧(k≤(nodeAt g (i:Int)).2.length)) ?_ ?_)))
       · refine ⟨_,_,⟨(v4:Value),(DT:Nat),((((out++eJ 0 1))++eJ ((((((nodeAt g (((i:Nat):Int))).2)).length:Nat):Int)) 2):List UInt8),(0:Nat),rfl,rfl,tY,Nat.le_refl _,a6,fY,f46,f47,f48,f49,f51,fY,fY,Ud,fY⟩,⟨rfl,rfl,rfl,rfl,rfl,rfl,rfl,trivial⟩⟩
       · rintro _ _ gi ⟨od,jo,jN,k,rfl,rfl,s5,Hx,dH,LA,f52,f53,f54,f55,f56,zV,o9,oe,n4⟩ fk;have LB:=xE oe;refine .go 2 rfl (.aX (.lt rfl rfl) (fun bc=>?_) fun bc=>?_)
         · refine .ae 2 rfl ?_;obtain ⟨aw,c8,fE,a7,bK,mj,iR,cV⟩:=ak.ft (P:=Tryz.prog) f56.bl Tryz.underlying219 dY j' (k:=.i64) (n:=((k:Nat):Int)) (k) fY aU;refine .go 6 rfl (.z (.indexAddr rfl rfl bK) (.z (.c4 dY rfl (fun _ e=>e▸cV) rfl) ?_));have h4:=F8 oe a7;have yf:=lH _ (List.mem_of_getElem? ue) _ (List.mem_of_getElem? a7);refine .ac (.alloc dY fun hA hy cX cy gh bH=>have s3:=dH.lt;have yc:=f56.lt;have f57:=dH.ext cX;have f58:=f52.ext cX;have f59:=f53.ext cX;have f60:=f54.ext cX;have f61:=f55.ext cX;have f62:=f56.ext cX;have vv:=s5.ext cX;have Hy:=cX.size;.ac (.st dY bH fun j4 dV cE=>?_));replace cE:ez j4 hy [.int .i32 aw.rune,.int .i64 aw.to] 233:=cE;have BS:=f57.lt;have DU:=f62.lt;have f63:=f57.bt dV (by omega);have f64:=f58.bt dV (by omega);have f65:=f59.bt dV (by omega);have f66:=f60.bt dV (by omega);have f67:=f61.bt dV (by omega);have f68:=f62.bt dV (by omega);have wT:=Ext.hq vv dV (by omega);have Hz:=dV.size;refine .go 4 rfl (.a_ pK hn cE (.z (.np (by kernel_rfl) Tryz.underlying3 rfl (IntWalk.i64_in _ fY)) (.ac (.aE vq rfl (vr (w0:=j4) (b:=jN) (aw.rune) (4) ((f63.bl).b0 (Nat.zero_le _) fY) (by first|assumption|omega|(simp only [List.length_append,eM,List.length_cons,List.length_nil]; omega)) vt) ?_))));rintro v5 lC ⟨⟨DV,bT,LC⟩,fG⟩;have DW:=f63.lt;have afc:=f68.lt;have f69:=f63.ext fG;have f70:=f64.ext fG;have f71:=f65.ext fG;have f72:=f66.ext fG;have f73:=f67.ext fG;have f74:=f68.ext fG;have f75:=cE.ext fG;have LD:=wT.ext fG;have afd:=fG.size;have LF:=bT.le;have LG:=bT.lt;have:=eM aw.rune 4;refine .go 4 rfl (.a_ pL aP f75 (.ac (.aE vq rfl (vr (w0:=lC) (b:=(jN++eJ aw.rune 4)) (aw.to) (2) ((bT.bl).b0 (Nat.zero_le _) fY) (by first|assumption|omega|(simp only [List.length_append,eM,List.length_cons,List.length_nil]; omega)) vt) ?_)));rintro v6 rh ⟨⟨LH,ed,afe⟩,hV⟩;have aff:=f69.lt;have afg:=f74.lt;have afh:=bT.lt;have f77:=f70.ext hV;have f78:=f71.ext hV;have f79:=f72.ext hV;have f80:=f73.ext hV;have f81:=f74.ext hV;have LI:=LD.ext hV;have afi:=hV.size;have LJ:=ed.le;have afj:=ed.lt;have:=eM aw.to 2;exact .go 4 rfl (.z (.bZ (((k+1:Nat):Int)) rfl rfl fY) (.ae 2 rfl ((fk _ _ _ ⟨(v6:Value),(LH:Nat),((((jN++eJ aw.rune 4))++eJ aw.to 2):List UInt8),(k+1:Nat),rfl,rfl,LI,fY,ed,fY,f77,f78,f79,f80,f81,fY,fY,(by first|exact C1 oe a7|(exfalso; omega)),(by first|omega|(exfalso; omega))⟩ fY).sub ⟨rfl,rfl,rfl,rfl,rfl,rfl,rfl,trivial⟩)))
         exact .go 6 rfl (.z (.bZ (((i+1:Nat):Int)) rfl rfl fY) (.ae 2 rfl ((bV _ _ _ ⟨(od:Value),(jo:Nat),(jN:List UInt8),(i+1:Nat),rfl,rfl,s5,fY,dH,fY,f52,f53,f54,f55,fY,(by first|exact F7 oe fY|(exfalso; omega)),(by first|omega|(exfalso; omega))⟩ fY).sub ⟨rfl,rfl,rfl,rfl,trivial⟩)))
     refine .ae 2 rfl (have f':=b7.lt;.go 6 rfl (.ac (.aE TM rfl (TU (w0:=de) (b:=out)  ((b7.bl).b0 (Nat.zero_le _) fY) (by first|assumption|omega|(simp only [List.length_append,eM,List.length_cons,List.length_nil]; omega))) ?_)));rintro _ dv ⟨rfl,bQ⟩;have hU:=b7.lt;have f29:=b7.ext bQ;have jm:=h9.ext bQ;have qp:=bQ.size;have:=zt 0 out;change jj out < _ at this;refine .z (.np (by kernel_rfl) Tryz.underlying3 rfl (IntWalk.i64_in _ fY)) (.ac (.aE vq rfl (vr (w0:=dv) (b:=out) ((((jj out:Nat):Int))) (4) ((f29.bl).b0 (Nat.zero_le _) fY) (by first|assumption|omega|(simp only [List.length_append,eM,List.length_cons,List.length_nil]; omega)) vt) ?_));rintro v2 en ⟨⟨oc,aa,iG⟩,b3⟩;have h4:=f29.lt;have mW:=jm.ext b3;have wL:=b3.size;have n_:=aa.le;have ye:=aa.lt;have:=eM ((((jj out:Nat):Int))) 4;exact .ae 3 rfl (bM Tryz.func172 rfl rfl rfl (aj.mk ⟨_,_,rfl,⟨_,Acc.cast aa Hv,by omega⟩,(congrArg (Value.int .i64) Hv),mW⟩))
theorem HA {p:Prop} (h:p:=by first|exact QD (by assumption)|rfl|exact ZY ml|exact ZZ ml|assumption|(exfalso; omega)):p:=h
theorem afk {w0:World}  {j0:Value} {words:List ag} (k8:ak cp w0 (aR 0 w0.heap.size) j0 words) (c7:ab.uW words) (dr:words.length≤1000000) :
 Calls Tryz.prog 135 #[j0] w0 (aj fun aD ai=>∃ ec fF,aD=.tuple #[ec,fF]∧(∃ cZ,Acc dR 5 1 ai cZ ec (kc words)∧(cZ=0∨w0.heap.size < cZ))∧fF=.int .i64 (eD words)∧Ext w0 ai):=by
 have ba:Ext w0 w0:=Mod.refl _ _;have fg:=k8.le;refine bS Tryz.func135 rfl Tryz.ntmps135 rfl (.go 8 rfl (.ac (.aE TP rfl (Ub (w0:=w0) (words:=words)  ((k8).b0 (Nat.zero_le _) (by omega)) (by assumption) aU) ?_)));rintro _ ai ⟨DX,_,rfl,⟨LK,wU,afl,BU,BV⟩,rfl,au⟩;have bf:=ba.ext au;have dW:=au.size;have:=ab.uX words;refine .go 10 rfl (.lW (.ne rfl rfl) (fun aJ=>?_) fun aJ=>?_)
 · exact .ae 8 rfl (bM Tryz.func135 rfl rfl rfl (aj.mk ⟨_,_,rfl,⟨0,Acc.cast Acc.nil HA,.inl rfl⟩,(congrArg (Value.int .i64) HA),bf⟩))
 refine .ae 1 rfl ?_;have ml:eD words=0:=(by assumption);have HB:=A8 ml;obtain ⟨lH,q1,gZ⟩:=HB.xy;have tV:=J0 ml;refine .go 5 rfl (.ac (.aE aet rfl (afb (w0:=ai)   afl (by omega) (by first|assumption|omega|(simp; done)) (by first|assumption|(simp; done)) (by first|assumption|(simp; done)) (by first|assumption|omega|(simp [gq,eM]; done))) ?_));rintro _ aZ ⟨v1,_,rfl,⟨h2,h1,cf⟩,rfl,ax⟩;have bk:=bf.ext ax;have e7:=ax.size;have jl:=h1.le;have q8:=h1.lt;have:=ZX ((ab.gI words)) (by first|assumption|omega|(simp [gq,eM]; done));exact .ae 5 rfl (bM Tryz.func135 rfl rfl rfl (aj.mk ⟨_,_,rfl,⟨_,Acc.cast h1 HA,by omega⟩,(congrArg (Value.int .i64) HA),bk⟩))
end Go.Proofs
namespace Go.Proofs
open Go.aA Go.ab
theorem HC {p:Prop} (h:p:=by first|exact (Gi (by omega)).1|exact (Gi (by omega)).2|exact (C4 (by omega) (by omega)).1|exact (C4 (by omega) (by omega)).2|(exfalso; omega)):p:=h
theorem BW {p:Prop} (h:p:=by omega):p:=h
theorem afm {w0:World}  {c:b1} {dh:Value} {di:Value} (shard:Int) (fh:ak cp w0 (aR 0 w0.heap.size) dh c.words) (fi:ak g' w0 (aR 0 w0.heap.size) di c.cuts) (bE:b1.Ok c) (ya:bp shard) (hlen:c.words.length≤1000000) :
 Calls Tryz.prog 91 #[.agg #[dh,di,.int .i64 c.workers,.int .i64 c.db,.int .i64 c.dA,.int .i64 c.batch,.int .i64 c.dB,.int .i64 c.dC,.int .i64 c.first,.int .i64 c.cap,.int .i64 c.dD,.int .i64 c.dE],.int .i64 shard] w0 (aj fun aD ai=>∃ ec fF,aD=.tuple #[ec,fF]∧(∃ cZ,Acc dR 5 1 ai cZ ec (fP c shard)∧(cZ=0∨w0.heap.size < cZ))∧fF=.int .i64 (vg c shard)∧Ext w0 ai):=by
 have ba:Ext w0 w0:=Mod.refl _ _;have fg:=fh.le;have lx:=fi.le;refine bS Tryz.func91 rfl Tryz.ntmps91 rfl (.go 2 rfl (.ac (.box [dh,di,.int .i64 c.workers,.int .i64 c.db,.int .i64 c.dA,.int .i64 c.batch,.int .i64 c.dB,.int .i64 c.dC,.int .i64 c.first,.int .i64 c.cap,.int .i64 c.dD,.int .i64 c.dE] rfl rfl fun ai aG au aJ c9 a1=>have f1:=fh.ext au;have f2:=fi.ext au;have bf:=ba.ext au;have dW:=au.size;.go 7 rfl (.z (.c4 jc rfl (fun _ e=>e▸a1.row) rfl) ?_))));refine .ac (.aE K8 rfl (Lo (w0:=ai) (c:=c)  ((f1).b0 (Nat.zero_le _) BW) ((f2).b0 (Nat.zero_le _) BW) (by first|assumption|exact ab.b1.l8 (by decide +kernel))) ?_);rintro _ aZ ⟨rfl,ax⟩;have f3:=f1.ext ax;have f4:=f2.ext ax;have f5:=a1.ext ax;have bk:=bf.ext ax;have e7:=ax.size;have:=ab.qQ c;refine .z (.il (((((ab.hs c:Nat):Int))-1)) rfl rfl BW) (.ac (.aE sS rfl (sW (w0:=aZ)  (shard) (0) (((((ab.hs c:Nat):Int))-1)) cu cu cu) ?_));rintro _ bz ⟨⟨aN,aK,rfl⟩,aM⟩;have f6:=f3.ext aM;have f7:=f4.ext aM;have f8:=f5.ext aM;have bD:=bk.ext aM;have hx:=aM.size;cases aN
 case true =>
  replace aK:=aK.symm;have:=ab.mw aK;refine .z (.not rfl) (.go 5 rfl (.z (.c4 jc rfl (fun _ e=>e▸f8.row) rfl) ?_));refine .go 1 rfl (.ac (.aE ad9 rfl (ae4 (w0:=bz) (c:=c) (shard) ((f6).b0 (Nat.zero_le _) BW) ((f7).b0 (Nat.zero_le _) BW) (by first|assumption|exact ab.b1.l8 (by decide +kernel)) cu aU) ?_));rintro v1 cj ⟨⟨h2,h1,cf⟩,aW⟩;have ek:=bD.ext aW;have je:=aW.size;have jl:=h1.le;have q8:=h1.lt;have:=Gh c.cuts c.words shard;change (ab.rN c shard).length≤_ at this;refine .ac (.aE ael rfl (afk (w0:=cj) (words:=(ab.rN c shard))  ((h1.bl).b0 (Nat.zero_le _) BW) (by exact aaa bE.words) (by first|assumption|omega|(simp; done))) ?_);rintro _ cM ⟨v2,_,rfl,⟨oc,aa,eA⟩,rfl,bh⟩;have b6:=h1.lt;have fq:=ek.ext bh;have lv:=bh.size;have n_:=aa.le;have ye:=aa.lt;have:=Gf ((ab.rN c shard));exact .ae 5 rfl (bM Tryz.func91 rfl rfl rfl (aj.mk ⟨_,_,rfl,⟨_,Acc.cast aa HC,by omega⟩,(congrArg (Value.int .i64) HC),fq⟩))
 replace aK:=aK.symm;have:=ab.ow aK;exact .z (.not rfl) (.ae 7 rfl (bM Tryz.func91 rfl rfl rfl (aj.mk ⟨_,_,rfl,⟨0,Acc.cast Acc.nil HC,.inl rfl⟩,(congrArg (Value.int .i64) HC),bD⟩)))
end Go.Proofs
namespace Go.Proofs
open Go.aA Go.ab
theorem LL {p:Prop} (h:p:=by first|exact .inl (Eq.symm (by assumption))|exact .inl (by assumption)|exact .inr (by omega)):p:=h
theorem LM {p:Prop} (h:p:=by first|assumption|exact ab.b1.l8 (by decide +kernel)):p:=h
theorem afn {w0:World} {c:b1} {dh:Value} {di:Value} (worker:Int) (fh:ak cp w0 (aR 0 w0.heap.size) dh c.words) (fi:ak g' w0 (aR 0 w0.heap.size) di c.cuts) (bE:b1.Ok c) (hw:bp worker) (hlen:c.words.length≤1000000) :
 Calls Tryz.prog 45 #[(.agg #[dh,di,.int .i64 c.workers,.int .i64 c.db,.int .i64 c.dA,.int .i64 c.batch,.int .i64 c.dB,.int .i64 c.dC,.int .i64 c.first,.int .i64 c.cap,.int .i64 c.dD,.int .i64 c.dE]:Value),.int .i64 worker] w0 (aj fun aD ai=>Mod (fun _=>False) w0 ai∧(qg c worker=false∧aD=.tuple #[.pointer none,.int .i64 2]∨qg c worker=true∧∃ cm cO,aD=.tuple #[ptr cm 0,.int .i64 0]∧(hT (R:=fun _=>False) 164 123 5 cm 0 ((f_ c worker))).p cO ai∧∀ b,cO b→b < ai.heap.size∧w0.heap.size≤b)):=by
 have dz:=ar.hR w0;have fg:=fh.le;have lx:=fi.le;have r8:=bE.workers;have p6:=bE.db;have r9:=bE.dA;have r_:=bE.batch;have r':=bE.dB;have sa:=bE.dC;have sb:=bE.first;have sc:=bE.cap;have sd:=bE.dD;have se:=bE.dE;refine bS Tryz.func45 rfl Tryz.ntmps45 rfl ?_;refine .go 2 rfl ?_;refine .ac (.box [dh,di,.int .i64 c.workers,.int .i64 c.db,.int .i64 c.dA,.int .i64 c.batch,.int .i64 c.dB,.int .i64 c.dC,.int .i64 c.first,.int .i64 c.cap,.int .i64 c.dD,.int .i64 c.dE] rfl rfl fun ai aG au aJ c9 a1=>?_);have bx:=(dz.dm au aJ a1).cJ;have f1:=bx.k 0;refine .go 6 rfl ?_;refine .z (.c4 jc rfl (fun _ e=>e▸f1.row) rfl) ?_;have f2:=bx.out fh (fun _ _ h=>h);have f3:=bx.out fi (fun _ _ h=>h);refine .ac (.aE K6 rfl (Lm (w0:=ai) (c:=c)  (f2.b0 (Nat.zero_le _) bx.mod.size) (f3.b0 (Nat.zero_le _) bx.mod.size) LM) ?_);rintro _ aZ ⟨⟨aN,aK,rfl⟩,ax⟩;have bJ:=bx.ext ax;cases aN
 case true =>
  replace aK:=aK.symm;have:=ab.tw aK;refine .z (.not rfl) ?_;refine .go 2 rfl ?_;refine .aX (.lt rfl rfl) (fun aV=>?_) fun aV=>?_
  · refine .ae 14 rfl ?_;exact bM Tryz.func45 rfl rfl rfl (aj.mk ⟨bJ.mod,.inl ⟨Bl LL,rfl⟩⟩)
  refine .go 3 rfl ?_;have f4:=bJ.k 0;refine .a_ wJ aP f4 ?_;refine .aX (.gt rfl rfl) (fun bc=>?_) fun bc=>?_
  · refine .ae 8 rfl ?_;exact bM Tryz.func45 rfl rfl rfl (aj.mk ⟨bJ.mod,.inl ⟨Bl LL,rfl⟩⟩)
  refine .go 6 rfl ?_;refine .ac (.makeMap (key:=fo) (val:=l') fun bz cR aM cy eY bH=>?_);have bP:=(bJ.P5 aM cy bH).cK;refine .z (.build (vs:=#[(0,(.map (some cR):Value))]) (v:=.agg #[.map (some cR),.int .i64 0]) rfl (fun _=>by kernel_rfl)) ?_;refine .ac (.box [.map (some cR),.int .i64 0] rfl rfl fun cj c8 aW ck gh cE=>?_);have bR:=(bP.dm aW ck cE).dM;have n4:=vh c worker;have cv:=(bR.aN [0] 2 1 (by rfl) (by decide)).cK;have cI:=(cv.ty (hT 164 123 5 c8 0 []) 1 rfl (fun eS bN=>abN bN)).cK;have f5:=cI.k 0;refine .go 5 rfl ?_;refine .z (.c4 jc rfl (fun _ e=>e▸f5.row) rfl) ?_;have f6:=cI.out fh (fun _ _ h=>h);have f7:=cI.out fi (fun _ _ h=>h);refine .go 1 rfl ?_;refine .ac (.aE K7 rfl (Lp (w0:=cj) (c:=c) (worker) (f6.b0 (Nat.zero_le _) cI.mod.size) (f7.b0 (Nat.zero_le _) cI.mod.size) LM cu) ?_);rintro v1 cM ⟨⟨h2,h1,cf⟩,bh⟩;have bW:=(cI.fU bh h1 cf).dM;clear cf;have jl:=h1.le;have:=vh c worker;obtain ⟨g1,f8,b6,bw⟩:=bW.bU (i:=2) rfl;refine .z (.ca Tryz.underlying57 (f8.bl) rfl) ?_;have cq:=(bW.dj [0,2,1] (by rfl) (by decide)).dM;refine .ae 3 rfl ?_;refine dU (I:=fun m E W=>∃ (k:Nat),E=[(2,ptr aG 0),(6,ptr c8 0),(29,v1),(30,.int .i64 (((((ab.bY c worker)).length:Nat):Int))),(31,.int .i64 (((k:Nat):Int)))]∧m=(bY c worker).length-k∧ar (fun _=>False) (fun _=>False) w0 W [az aG [dh,di,.int .i64 c.workers,.int .i64 c.db,.int .i64 c.dA,.int .i64 c.batch,.int .i64 c.dB,.int .i64 c.dC,.int .i64 c.first,.int .i64 c.cap,.int .i64 c.dD,.int .i64 c.dE] 26,bb aA.encI 3 1 v1 ((ab.bY c worker)),hT 164 123 5 c8 0 ((((bY c worker).take k).map (pA c)))]) ?_ ?_
  · refine ⟨_,_,⟨(0:Nat),rfl,rfl,cq⟩,⟨rfl,rfl,rfl,rfl,rfl,trivial⟩⟩
  · rintro _ _ de ⟨k,rfl,rfl,ct⟩ bV;refine .go 2 rfl ?_;refine .aX (.lt rfl rfl) (fun c'=>?_) fun c'=>?_
    · refine .ae 2 rfl ?_;obtain ⟨g2,f9,dG,cB⟩:=ct.bU (i:=1) rfl;obtain ⟨aw,h5,fE,a7,bK,e1,cV⟩:=ak.eH (P:=Tryz.prog) f9.bl Tryz.underlying57 aP aA.fy (k:=.i64) (n:=((k:Nat):Int)) (k) (by omega) aU;refine .go 6 rfl ?_;refine .z (.indexAddr rfl rfl bK) ?_;refine .z (.dT aP cV) ?_;have zW:=Bm (List.mem_of_getElem? a7);have afo:=ab.qQ c;have LN:bp aw:=(by unfold bp; omega);have f10:=ct.k 0;refine .go 4 rfl ?_;refine .z (.c4 jc rfl (fun _ e=>e▸f10.row) rfl) ?_;have f11:=ct.out fh (fun _ _ h=>h);have f12:=ct.out fi (fun _ _ h=>h);refine .go 1 rfl ?_;refine .ac (.aE aee rfl (afm (w0:=de) (c:=c) (aw) (f11.b0 (Nat.zero_le _) ct.mod.size) (f12.b0 (Nat.zero_le _) ct.mod.size) LM cu aU) ?_);rintro _ dv ⟨v2,_,rfl,⟨oc,aa,eA⟩,rfl,bQ⟩;have cg:=(ct.fU bQ aa eA).bu;clear eA;have n_:=aa.le;have:=J1 c aw;have:=Q0 c aw;obtain ⟨jY,et,dZ,d'⟩:=cg.act (i:=2) rfl;obtain ⟨D,er,iE,tX⟩:=Se et;have cz:ar (fun _=>False) (fun _=>False) w0 dv [az aG [dh,di,.int .i64 c.workers,.int .i64 c.db,.int .i64 c.dA,.int .i64 c.batch,.int .i64 c.dB,.int .i64 c.dC,.int .i64 c.first,.int .i64 c.cap,.int .i64 c.dD,.int .i64 c.dE] 26,bb aA.encI 3 1 v1 ((ab.bY c worker)),bA [az c8 [.map (some er),.int .i64 0] 164,kb fo l' er (D.map fun x=>(x.shard,x.ptr)),bA (D.map (gr 123 5))],bb dR 5 1 v2 ((fP c aw))]:=d' _ _ _ (Mod.refl _ _) tX (fun b U=>⟨(dZ b U).2,.inl U⟩);clear d' et tX;have cS:=(cz.un 2 rfl [0,1,3] (by rfl) (by decide)).n6;refine .ae 6 rfl ?_;refine fx (fun i=>Nat.beq i 7 || Nat.beq i 9 || Nat.beq i 10) 10 (fun ah=>Mod (b5 0) dv ah) mixed (by kernel_rfl) fun en b3=>?_
      have dd:=cS.ext b3;have ri:Mod (b5 0) dv en:=Mod.gW b3;refine ⟨ri,?_⟩;rw [show List.range' 0 (Array.size _)=[0,1,2,3,4,5,6,7,8,9,10] from rfl];refine .gd 2 rfl ?_;refine .z rfl (.fieldAddr K4 rfl) ?_;have f13:=cS.k 3;refine .z rfl (.cT K3 rfl (fun _ an=>(f13.cell 0 _ rfl).bt an (Nat.succ_ne_zero _))) ?_;obtain ⟨g3,f14,f',d_⟩:=dd.bU (i:=2) rfl;refine .gd 3 rfl ?_;refine .ac rfl (.aE DH rfl (DJ (w0:=en) (s:=(fP c aw))  (f14.bl.b0 (Nat.zero_le _) f14.lt) aU) ?_);rintro v3 eE ⟨⟨qv,aq,iG⟩,cF⟩;have eF:=(dd.fU cF aq iG).n7;clear iG;have s4:=aq.le;have HD:=ri.ext cF;refine ⟨.inr HD,?_⟩;obtain ⟨g4,f15,hU,hS⟩:=eF.bU (i:=2) rfl;obtain ⟨br,bs,ej⟩:=f15.shape;subst ej;obtain ⟨g5,f16,h4,ih⟩:=eF.bU (i:=6) rfl;obtain ⟨dN,dO,ju⟩:=f16.shape;subst ju;refine .z rfl (.build (vs:=#[(0,(.slice br ((fP c aw)).length bs)),(1,(.slice dN ((((fP c aw)))).length dO))]) (v:=.agg #[(.slice br ((fP c aw)).length bs),(.slice dN ((((fP c aw)))).length dO)]) rfl (fun _=>by kernel_rfl)) ?_;refine .ac rfl (.box [(.slice br ((fP c aw)).length bs),(.slice dN ((((fP c aw)))).length dO)] rfl rfl fun eO kO cG dq gT da=>?_);have ds:=(eF.dm cG dq da).n8;have rf:=HD.ext cG;refine ⟨.inr rf,?_⟩;have f17:=ds.map (i:=4) rfl;refine .ac rfl (.PL (key:=fo) (val:=l') (u:=kO) (tD Tryz.underlying3) Tryz.underlying162 rfl rfl rfl f17 (Kz (abD (GA c worker) a7 iE)) fun gi cX gL eT=>?_);have fs:=(ds.kG (i:=4) rfl cX eT).n8;refine ⟨.inl rfl,?_⟩;refine .nil ?_;have eW:=(fs.bn [0,1,3,4,5] 7 2 6 (by rfl) (by decide)).n6;have fR:=(eW.hJ (A:=fun vs:Value×Value=>bA [az kO [vs.1,vs.2] 123,bb dR 5 1 vs.1 (fP c aw),bb dR 5 1 vs.2 (fP c aw)]) ((.slice br ((fP c aw)).length bs),(.slice dN ((((fP c aw)))).length dO)) (i:=5) rfl).n6;have fB:=(fR.bj [0,1] 2 3 4 5 (by rfl) (by decide)).dM;have hB:=(fB.ty (hT 164 123 5 c8 0 ((((bY c worker).take (k+1)).map (pA c)))) 2 rfl (fun eS bN=>(by rw [←R8 a7]; exact abM (y:=(jb.mk aw kO (fP c aw) (fP c aw))) iE rfl bN))).dM;refine .go 2 rfl ?_;refine .z (.bZ (((k+1:Nat):Int)) rfl rfl (by omega)) ?_;refine .ae 2 rfl ?_;exact (bV _ _ _ ⟨(k+1:Nat),rfl,rfl,hB⟩ (by omega)).sub ⟨rfl,rfl,rfl,rfl,rfl,trivial⟩
    refine .ae 10 rfl ?_;refine bM Tryz.func45 rfl rfl rfl ?_;have bF:=(ct.dj [2] (by rfl) (by decide)).cJ;have fr:(((bY c worker).take k).map (pA c))=f_ c worker:=(by rw [List.take_of_length_le (by omega)]; rfl);rw [fr] at bF;obtain ⟨cD,c0,c3,cQ⟩:=bF.fin;exact aj.mk ⟨cD,.inr ⟨Gy (by first|assumption|(symm; assumption)) (by omega) (by omega),_,c0,rfl,c3,fun b U=>⟨(cQ b U).1,(cQ b U).2.resolve_left id⟩⟩⟩
 replace aK:=aK.symm;refine .z (.not rfl) ?_;refine .ae 17 rfl ?_;exact bM Tryz.func45 rfl rfl rfl (aj.mk ⟨bJ.mod,.inl ⟨Bl LL,rfl⟩⟩)
end Go.Proofs
namespace Go.Proofs
open Go.aA Go.ab
theorem jz {p:Prop} (h:p:=by assumption):p:=h
theorem oJ {p:Prop} (h:p:=by decide):p:=h
theorem kP {p:Prop} (h:p:=by omega):p:=h
theorem HE {p:Prop} (h:p:=by first|assumption|omega|(simp; done)):p:=h
theorem HF {p:Prop} (h:p:=by first|assumption|(symm; assumption)):p:=h
theorem Uf:∀ (f:Nat) {w0:World} {F G:Nat→Prop} {ht oK gS:Nat} {nx:Value} {st:List Int} {dF:Nat} {fJ:Value} {aT:List cc} {N:List bC} (n:Nat) (d:Int) (bg:(Ri (R:=fun _=>False) 99 57 3 157 197 ht oK gS dF nx st).p F w0) (bO:∀ b,F b→b < w0.heap.size) (m':Row w0 dF 0 [fJ]) (iT:G dF) (hc:ak eR w0 G fJ aT) (jf:iC w0 G aT N) (cC:∀ b,G b→¬ F b) (fj:∀ b,G b→b < w0.heap.size) (og:N.length≤1000000) (gZ:∀ x∈N,x.2.length≤1000000) (ky:∀ x∈N,∀ e∈x.2,1≤e.to∧e.to < (N.length:Int)) (lk:st.length=N.length) (aI:n < N.length) (hd:0≤d∧d≤13∧13≤d+f),
 Calls Tryz.prog 197 #[.int .i64 (n:Int),.int .i64 d,ptr ht 0,ptr oK 0,ptr gS 0] w0 (aj fun aD ai=>aD=.bool (ha N (f+1) n d st).1∧Mod F w0 ai∧∃ cO,(Ri (R:=fun _=>False) 99 57 3 157 197 ht oK gS dF nx ((ha N (f+1) n d st).2)).p cO ai∧∀ b,cO b→b < ai.heap.size∧(F b∨w0.heap.size≤b)):=by
 intro f
 induction f using Nat.strongRecOn with
 | _ f n' =>
 intro w0 F G ht oK gS nx st dF fJ aT N n d bg bO m' iT hc jf cC fj og gZ ky lk aI hd;have gB:=ar.nu (R:=fun _=>False) bg (fun b U=>⟨bO b U,id⟩) (fun _ h=>h.elim);have wO:=(cx.get jf).1;change ar (fun _=>False) F w0 w0 [bA [az ht [ptr dF 0] 99,az oK [nx] 57,bb aA.encI 3 1 nx st,az gS [.func (.func 197) #[] #[ptr ht 0,ptr oK 0,ptr gS 0]] 157]] at gB;have cP:=(gB.un 0 rfl [] (by rfl) (by decide)).bu;refine bS Tryz.func197 rfl Tryz.ntmps197 rfl ?_;have f1:=cP.k 0;refine .go 6 rfl ?_;refine .z (.fV pI f1) ?_;refine .go 1 rfl ?_;refine .z (.fieldAddr mV rfl) ?_;refine .z (.dT mU m') ?_;obtain ⟨aw,aG,fE,a7,bK,b6,cV⟩:=ak.eH (P:=Tryz.prog) hc Tryz.underlying262 iQ l9 (k:=.i64) (n:=((n:Nat):Int)) (n) kP aU;refine .go 1 rfl ?_;refine .z (.indexAddr rfl rfl bK) ?_;refine .z (.c4 iQ rfl (fun _ e=>e▸cV) rfl) ?_;obtain ⟨gU,gD,qw,mG⟩:=jf.at a7;have HG:=gZ _ (List.mem_of_getElem? gD);obtain ⟨iI,nC⟩:∃ b,aw.fin=b:=⟨_,rfl⟩;first|rw [show eR aw=[.bool iI,aw.e.val] from by rw [←nC]; rfl]|rw [nC]
 have kk:iI=gU.1:=(by rw [←nC]; first|exact qw|exact qw.symm);refine .ac (.alloc iQ fun ai aN au aJ c9 a1=>?_);have bJ:=(cP.dm au aJ a1).c6;have f2:=bJ.k 4;refine .ac (.st iQ f2 fun aZ ax bH=>?_);have b2:=(bJ.cL (cs':=[.bool iI,aw.e.val]) (i:=4) rfl ax bH).c6;have f3:=b2.k 1;refine .go 4 rfl ?_;refine .z (.fV wI f3) ?_;obtain ⟨g1,f4,dG,bw⟩:=b2.bU (i:=2) rfl;obtain ⟨x2,bn,iv,cY,c_,e1,eL⟩:=ak.eH (P:=Tryz.prog) f4.bl Tryz.underlying57 aP aA.fy (k:=.i64) (n:=((n:Nat):Int)) (n) kP aU;refine .go 1 rfl ?_;refine .z (.indexAddr rfl rfl c_) ?_;refine .z (.dT aP eL) ?_;refine .h8 (.eq rfl rfl) (fun aK=>?_) fun aK=>?_
 · refine .ae 6 rfl ?_;refine aL Tryz.func197 rfl rfl ?_;have bP:=(b2.bj [4] 0 1 2 3 (by rfl) (by decide)).cK;have bo:=(bP.dj [1] (by rfl) (by decide)).cJ;obtain ⟨cD,c0,c3,cQ⟩:=bo.fin;have hw:ha N (f+1) n d st=(true,st):=(by first|exact C5 (d:=d) gD jz jz|exact Gk (d:=d) gD jz jz (by first|exact .inl jz|exact .inr (.inl jz)|exact .inr (.inr ⟨by assumption,by first|assumption|exact List.eq_nil_of_length_eq_zero kP⟩)));exact aj.mk ⟨by rw [hw],cD,c0,by rw [hw]; exact c3,cQ⟩
 refine .go 6 rfl ?_;refine .z (.fV wI f3) ?_;obtain ⟨fA,cR,pP,hM,fM,f',jn⟩:=ak.eH (P:=Tryz.prog) f4.bl Tryz.underlying57 aP aA.fy (k:=.i64) (n:=((n:Nat):Int)) (n) kP aU;obtain rfl:x2=fA:=Option.some.inj (cY.symm.trans hM);refine .go 1 rfl ?_;refine .z (.indexAddr rfl rfl fM) ?_;refine .z (.dT aP jn) ?_;refine .h8 (.eq rfl rfl) (fun aV=>?_) fun aV=>?_
 · refine .ae 21 rfl ?_;refine aL Tryz.func197 rfl rfl ?_;have bP:=(b2.bj [4] 0 1 2 3 (by rfl) (by decide)).cK;have bo:=(bP.dj [1] (by rfl) (by decide)).cJ;obtain ⟨cD,c0,c3,cQ⟩:=bo.fin;have hw:ha N (f+1) n d st=(false,st):=(by first|exact C5 (d:=d) gD jz jz|exact Gk (d:=d) gD jz jz (by first|exact .inl jz|exact .inr (.inl jz)|exact .inr (.inr ⟨by assumption,by first|assumption|exact List.eq_nil_of_length_eq_zero kP⟩)));exact aj.mk ⟨by rw [hw],cD,c0,by rw [hw]; exact c3,cQ⟩
 refine .go 2 rfl ?_;refine .aX (.gt rfl rfl) (fun bc=>?_) fun bc=>?_
 · refine .ae 18 rfl ?_;refine aL Tryz.func197 rfl rfl ?_;have bP:=(b2.bj [4] 0 1 2 3 (by rfl) (by decide)).cK;have bo:=(bP.dj [1] (by rfl) (by decide)).cJ;obtain ⟨cD,c0,c3,cQ⟩:=bo.fin;have hw:ha N (f+1) n d st=(false,st):=(by first|exact C5 (d:=d) gD jz jz|exact Gk (d:=d) gD jz jz (by first|exact .inl jz|exact .inr (.inl jz)|exact .inr (.inr ⟨by assumption,by first|assumption|exact List.eq_nil_of_length_eq_zero kP⟩)));exact aj.mk ⟨by rw [hw],cD,c0,by rw [hw]; exact c3,cQ⟩
 refine .go 2 rfl ?_;have f5:=b2.k 4;refine .a_ DG fW f5 ?_;cases iI
 case true =>
  replace kk:=kk.symm;refine .z (.not rfl) ?_;refine .go 12 rfl ?_;refine .z (.fV wI f3) ?_;obtain ⟨iK,fc,ia⟩:=Acc.at (P:=Tryz.prog) f4 Tryz.underlying57 aP (k:=.i64) (n:=((n:Nat):Int)) (n) kP HE;refine .go 1 rfl ?_;refine .z (.indexAddr rfl rfl iK) ?_;refine .ac (.rT f4 aA.fy (i:=n) (o:=0) ia 1 aP rfl (by first|omega|rfl) rfl rfl rfl rfl oJ (by first|rfl|simp [aA.encI]) fun bz aM gh b7=>?_);have hU:(st.set n 1).length=st.length:=List.length_set;have bP:=(bw _ _ _ _ aM b7 (.inl rfl)).c6;refine .go 4 rfl ?_;have f6:=bP.k 4;refine .a_ sR ki f6 ?_;have f7:=bP.out mG cC;refine .z (.ca Tryz.underlying219 (f7) rfl) ?_;have bR:=(bP.dj [2,1,0,3] (by rfl) oJ).bu;refine .ae 3 rfl ?_;refine dU (I:=fun m E W=>∃ (dt:List Int) (k:Nat),E=[(0,.int .i64 (((n:Nat):Int))),(1,.int .i64 d),(3,ptr oK 0),(4,ptr gS 0),(47,aw.e.val),(48,.int .i64 (((gU.2.length:Nat):Int))),(49,.int .i64 (((k:Nat):Int)))]∧m=gU.2.length-k∧ar (fun _=>False) F w0 W [bb aA.encI 3 1 nx dt,az oK [nx] 57,az ht [ptr dF 0] 99,az gS [.func (.func 197) #[] #[ptr ht 0,ptr oK 0,ptr gS 0]] 157]∧((mD (fun st e=>ha N f e.to.toNat (d+1) st) (st.set n 1) gU.2)=mD (fun st e=>ha N f e.to.toNat (d+1) st) dt (gU.2.drop k))∧(dt.length=N.length)∧(k≤gU.2.length)) ?_ ?_
  · refine ⟨_,_,⟨((st.set n 1):List Int),(0:Nat),rfl,rfl,bR,(by rw [List.drop_zero]),(by simp only [List.length_set]; omega),kP⟩,⟨rfl,rfl,rfl,rfl,rfl,rfl,rfl,trivial⟩⟩
  · rintro _ _ cj ⟨dt,k,rfl,rfl,bo,e3,afp,n4⟩ bV;refine .go 2 rfl ?_;refine .aX (.lt rfl rfl) (fun cy=>?_) fun cy=>?_
    · refine .ae 2 rfl ?_;have f8:=bo.out mG cC;obtain ⟨hN,kO,s0,lz,iL,h4,ly⟩:=ak.eH (P:=Tryz.prog) f8 Tryz.underlying219 dY j' (k:=.i64) (n:=((k:Nat):Int)) (k) kP aU;refine .go 6 rfl ?_;refine .z (.indexAddr rfl rfl iL) ?_;refine .z (.c4 dY rfl (fun _ e=>e▸ly) rfl) ?_;have iw:=lz;refine .ac (.alloc dY fun cM j3 aW ck gT cE=>?_);have cI:=(bo.dm aW ck cE).c6;have f9:=cI.k 4;refine .ac (.store dY rfl rfl rfl rfl rfl f9 dx fun de bh gL da=>?_);have b8:=(cI.cL (cs':=[.int .i32 hN.rune,.int .i64 hN.to]) (i:=4) rfl bh da).c6;have f10:=b8.k 3;refine .go 3 rfl ?_;refine .z (.fV BC f10) ?_;have f11:=b8.k 4;refine .a_ pL aP f11 ?_;refine .go 1 rfl ?_;refine .z (.bZ ((d+1)) rfl rfl (by omega)) ?_;have bW:=(b8.bj [4] 2 1 0 3 (by rfl) oJ).cK;have o4:=ky _ (List.mem_of_getElem? gD) _ (List.mem_of_getElem? lz);obtain ⟨f2,uf⟩:∃ f2,f=f2+1:=⟨f-1,by omega⟩;obtain ⟨jY,et,dZ,d'⟩:=bW.act (i:=1) rfl;refine .ac (.call (first:=[]) (cap:=[ptr ht 0,ptr oK 0,ptr gS 0]) Hh rfl rfl (zx (n' f2 kP (hN.to).toNat ((d+1)) et (fun b U=>(dZ b U).2) (m'.keep bW.mod (cC _ iT)) iT (hc.keep bW.mod cC) (jf.keep bW.mod cC) (fun b U ad=>by have:=(dZ b ad).1.1; rcases this with h|h; exact cC b U h; have:=fj b U; omega) (fun b U=>Nat.lt_of_lt_of_le (fj b U) bW.mod.size) og gZ ky (by first|omega|(simp only [List.length_replicate]; done)) kP kP) kP) ?_);rintro _ dv ⟨rfl,bQ,gb,gV,fu⟩;rw [←uf] at gV ⊢;have ct:=(d' _ _ _ bQ gV fu).cK;clear et dZ d' gV fu;have q1:=Gl N f (hN.to).toNat ((d+1)) dt;change ar (fun _=>False) F w0 dv [az j3 [.int .i32 hN.rune,.int .i64 hN.to] 233,bA [az ht [ptr dF 0] 99,az oK [nx] 57,bb aA.encI 3 1 nx (ha N f ((hN.to).toNat) ((d+1)) dt).2,az gS [.func (.func 197) #[] #[ptr ht 0,ptr oK 0,ptr gS 0]] 157]] at ct;have cq:=(ct.un 1 rfl [0] (by rfl) oJ).c6;generalize c':(ha N f ((hN.to).toNat) ((d+1)) dt).1=mF;replace c':=c'.symm;cases mF
      case true =>
       replace c':=c'.symm;refine .z (.not rfl) ?_;refine .go 5 rfl ?_;refine .z (.bZ (((k+1:Nat):Int)) rfl rfl kP) ?_;have bF:=(cq.dj [3,2,1,4] (by rfl) oJ).bu;refine .ae 2 rfl ?_;exact (bV _ _ _ ⟨((ha N f ((hN.to).toNat) ((d+1)) dt).2:List Int),(k+1:Nat),rfl,rfl,bF,(by first|exact Q2 e3 iw HF|(exfalso; omega)),(by first|omega|(exfalso; omega)),(by first|omega|(exfalso; omega))⟩ kP).sub ⟨rfl,rfl,rfl,rfl,rfl,rfl,rfl,trivial⟩
      replace c':=c'.symm;refine .z (.not rfl) ?_;refine .ae 6 rfl ?_;refine aL Tryz.func197 rfl rfl ?_;have bF:=(cq.bj [0] 1 2 3 4 (by rfl) oJ).cK;have cg:=(bF.dj [1] (by rfl) (by decide)).cJ;obtain ⟨cD,c0,c3,cQ⟩:=cg.fin;have b':=Q3 e3 iw HF;have hw:ha N (f+1) n d st=(false,(ha N f ((hN.to).toNat) ((d+1)) dt).2):=Q5 (d:=d) gD cY jz (by intro h; rcases h with h|h|⟨h1,aa⟩; omega; omega; first|exact absurd (show false=true from h1.symm.trans jz) oJ|(have:=congrArg List.length aa; simp only [List.length_nil] at this; omega)) b';exact aj.mk ⟨by rw [hw],cD,c0,by rw [hw]; exact c3,cQ⟩
    refine .ae 2 rfl ?_;have f8:=bo.k 1;refine .go 4 rfl ?_;refine .z (.fV wI f8) ?_;obtain ⟨g2,f9,h4,cB⟩:=bo.bU (i:=0) rfl;obtain ⟨iL,hN,lz⟩:=Acc.at (P:=Tryz.prog) f9 Tryz.underlying57 aP (k:=.i64) (n:=((n:Nat):Int)) (n) kP HE;refine .go 1 rfl ?_;refine .z (.indexAddr rfl rfl iL) ?_;refine .ac (.rT f9 aA.fy (i:=n) (o:=0) lz 2 aP rfl (by first|omega|rfl) rfl rfl rfl rfl oJ (by first|rfl|simp [aA.encI]) fun cM aW gT dH=>?_);have jy:(dt.set n 2).length=dt.length:=List.length_set;have cv:=(cB _ _ _ _ aW dH (.inl rfl)).bu;refine .ae 5 rfl ?_;refine aL Tryz.func197 rfl rfl ?_;have cI:=(cv.bj [] 2 1 0 3 (by rfl) oJ).cJ;obtain ⟨cD,c0,c3,cQ⟩:=cI.fin;have b':=Q4 e3 (by omega);have hw:ha N (f+1) n d st=(true,(dt.set n 2)):=Q6 (d:=d) gD cY jz (by intro h; rcases h with h|h|⟨h1,aa⟩; omega; omega; first|exact absurd (show false=true from h1.symm.trans jz) oJ|(have:=congrArg List.length aa; simp only [List.length_nil] at this; omega)) b';exact aj.mk ⟨by rw [hw],cD,c0,by rw [hw]; exact c3,cQ⟩
 replace kk:=kk.symm;refine .z (.not rfl) ?_;refine .go 1 rfl ?_;refine .a_ sR ki f5 ?_;have f6:=b2.out mG cC;refine .z (.ca Tryz.underlying219 (f6) rfl) ?_;refine .h8 (.eq rfl rfl) (fun cy=>?_) fun cy=>?_
 · refine .ae 8 rfl ?_;refine aL Tryz.func197 rfl rfl ?_;have bP:=(b2.bj [4] 0 1 2 3 (by rfl) (by decide)).cK;have bo:=(bP.dj [1] (by rfl) (by decide)).cJ;obtain ⟨cD,c0,c3,cQ⟩:=bo.fin;have hw:ha N (f+1) n d st=(false,st):=(by first|exact C5 (d:=d) gD jz jz|exact Gk (d:=d) gD jz jz (by first|exact .inl jz|exact .inr (.inl jz)|exact .inr (.inr ⟨by assumption,by first|assumption|exact List.eq_nil_of_length_eq_zero kP⟩)));exact aj.mk ⟨by rw [hw],cD,c0,by rw [hw]; exact c3,cQ⟩
 refine .go 7 rfl ?_;refine .z (.fV wI f3) ?_;obtain ⟨iK,fc,ia⟩:=Acc.at (P:=Tryz.prog) f4 Tryz.underlying57 aP (k:=.i64) (n:=((n:Nat):Int)) (n) kP HE;refine .go 1 rfl ?_;refine .z (.indexAddr rfl rfl iK) ?_;refine .ac (.rT f4 aA.fy (i:=n) (o:=0) ia 1 aP rfl (by first|omega|rfl) rfl rfl rfl rfl oJ (by first|rfl|simp [aA.encI]) fun bz aM gh b7=>?_);have hU:(st.set n 1).length=st.length:=List.length_set;have bP:=(bw _ _ _ _ aM b7 (.inl rfl)).c6;refine .go 4 rfl ?_;have f7:=bP.k 4;refine .a_ sR ki f7 ?_;have f8:=bP.out mG cC;refine .z (.ca Tryz.underlying219 (f8) rfl) ?_;have bR:=(bP.dj [2,1,0,3] (by rfl) (by decide)).bu;refine .ae 3 rfl ?_;refine dU (I:=fun m E W=>∃ (dt:List Int) (k:Nat),E=[(0,.int .i64 (((n:Nat):Int))),(1,.int .i64 d),(3,ptr oK 0),(4,ptr gS 0),(47,aw.e.val),(48,.int .i64 (((gU.2.length:Nat):Int))),(49,.int .i64 (((k:Nat):Int)))]∧m=gU.2.length-k∧ar (fun _=>False) F w0 W [bb aA.encI 3 1 nx dt,az oK [nx] 57,az ht [ptr dF 0] 99,az gS [.func (.func 197) #[] #[ptr ht 0,ptr oK 0,ptr gS 0]] 157]∧((mD (fun st e=>ha N f e.to.toNat (d+1) st) (st.set n 1) gU.2)=mD (fun st e=>ha N f e.to.toNat (d+1) st) dt (gU.2.drop k))∧(dt.length=N.length)∧(k≤gU.2.length)) ?_ ?_
 · refine ⟨_,_,⟨((st.set n 1):List Int),(0:Nat),rfl,rfl,bR,(by rw [List.drop_zero]),(by simp only [List.length_set]; omega),kP⟩,⟨rfl,rfl,rfl,rfl,rfl,rfl,rfl,trivial⟩⟩
 · rintro _ _ cj ⟨dt,k,rfl,rfl,bo,e3,afp,n4⟩ bV;refine .go 2 rfl ?_;refine .aX (.lt rfl rfl) (fun ck=>?_) fun ck=>?_
   · refine .ae 2 rfl ?_;have f9:=bo.out mG cC;obtain ⟨hN,j3,s0,lz,iL,h4,ly⟩:=ak.eH (P:=Tryz.prog) f9 Tryz.underlying219 dY j' (k:=.i64) (n:=((k:Nat):Int)) (k) kP aU;refine .go 6 rfl ?_;refine .z (.indexAddr rfl rfl iL) ?_;refine .z (.c4 dY rfl (fun _ e=>e▸ly) rfl) ?_;have iw:=lz;refine .ac (.alloc dY fun cM mF aW c' gT cE=>?_);have cI:=(bo.dm aW c' cE).c6;have f10:=cI.k 4;refine .ac (.st dY f10 fun de bh da=>?_);have b8:=(cI.cL (cs':=[.int .i32 hN.rune,.int .i64 hN.to]) (i:=4) rfl bh da).c6;have f11:=b8.k 3;refine .go 3 rfl ?_;refine .z (.fV BC f11) ?_;have f12:=b8.k 4;refine .a_ pL aP f12 ?_;refine .go 1 rfl ?_;refine .z (.bZ ((d+1)) rfl rfl (by omega)) ?_;have bW:=(b8.bj [4] 2 1 0 3 (by rfl) oJ).cK;have o4:=ky _ (List.mem_of_getElem? gD) _ (List.mem_of_getElem? lz);obtain ⟨f2,uf⟩:∃ f2,f=f2+1:=⟨f-1,by omega⟩;obtain ⟨jY,et,dZ,d'⟩:=bW.act (i:=1) rfl;refine .ac (.call (first:=[]) (cap:=[ptr ht 0,ptr oK 0,ptr gS 0]) Hh rfl rfl (zx (n' f2 kP (hN.to).toNat ((d+1)) et (fun b U=>(dZ b U).2) (m'.keep bW.mod (cC _ iT)) iT (hc.keep bW.mod cC) (jf.keep bW.mod cC) (fun b U ad=>by have:=(dZ b ad).1.1; rcases this with h|h; exact cC b U h; have:=fj b U; omega) (fun b U=>Nat.lt_of_lt_of_le (fj b U) bW.mod.size) og gZ ky (by first|omega|(simp only [List.length_replicate]; done)) kP kP) kP) ?_);rintro _ dv ⟨rfl,bQ,gb,gV,fu⟩;rw [←uf] at gV ⊢;have ct:=(d' _ _ _ bQ gV fu).cK;clear et dZ d' gV fu;have q1:=Gl N f (hN.to).toNat ((d+1)) dt;change ar (fun _=>False) F w0 dv [az mF [.int .i32 hN.rune,.int .i64 hN.to] 233,bA [az ht [ptr dF 0] 99,az oK [nx] 57,bb aA.encI 3 1 nx (ha N f ((hN.to).toNat) ((d+1)) dt).2,az gS [.func (.func 197) #[] #[ptr ht 0,ptr oK 0,ptr gS 0]] 157]] at ct;have cq:=(ct.un 1 rfl [0] (by rfl) oJ).c6;generalize dq:(ha N f ((hN.to).toNat) ((d+1)) dt).1=pQ;replace dq:=dq.symm;cases pQ
     case true =>
      replace dq:=dq.symm;refine .z (.not rfl) ?_;refine .go 5 rfl ?_;refine .z (.bZ (((k+1:Nat):Int)) rfl rfl kP) ?_;have bF:=(cq.dj [3,2,1,4] (by rfl) oJ).bu;refine .ae 2 rfl ?_;exact (bV _ _ _ ⟨((ha N f ((hN.to).toNat) ((d+1)) dt).2:List Int),(k+1:Nat),rfl,rfl,bF,(by first|exact Q2 e3 iw HF|(exfalso; omega)),(by first|omega|(exfalso; omega)),(by first|omega|(exfalso; omega))⟩ kP).sub ⟨rfl,rfl,rfl,rfl,rfl,rfl,rfl,trivial⟩
     replace dq:=dq.symm;refine .z (.not rfl) ?_;refine .ae 6 rfl ?_;refine aL Tryz.func197 rfl rfl ?_;have bF:=(cq.bj [0] 1 2 3 4 (by rfl) oJ).cK;have cg:=(bF.dj [1] (by rfl) (by decide)).cJ;obtain ⟨cD,c0,c3,cQ⟩:=cg.fin;have b':=Q3 e3 iw HF;have hw:ha N (f+1) n d st=(false,(ha N f ((hN.to).toNat) ((d+1)) dt).2):=Q5 (d:=d) gD cY jz (by intro h; rcases h with h|h|⟨h1,aa⟩; omega; omega; first|exact absurd (show false=true from h1.symm.trans jz) oJ|(have:=congrArg List.length aa; simp only [List.length_nil] at this; omega)) b';exact aj.mk ⟨by rw [hw],cD,c0,by rw [hw]; exact c3,cQ⟩
   refine .ae 2 rfl ?_;have f9:=bo.k 1;refine .go 4 rfl ?_;refine .z (.fV wI f9) ?_;obtain ⟨g2,f10,h4,cB⟩:=bo.bU (i:=0) rfl;obtain ⟨iL,hN,lz⟩:=Acc.at (P:=Tryz.prog) f10 Tryz.underlying57 aP (k:=.i64) (n:=((n:Nat):Int)) (n) kP HE;refine .go 1 rfl ?_;refine .z (.indexAddr rfl rfl iL) ?_;refine .ac (.rT f10 aA.fy (i:=n) (o:=0) lz 2 aP rfl (by first|omega|rfl) rfl rfl rfl rfl oJ (by first|rfl|simp [aA.encI]) fun cM aW gT dH=>?_);have jy:(dt.set n 2).length=dt.length:=List.length_set;have cv:=(cB _ _ _ _ aW dH (.inl rfl)).bu;refine .ae 5 rfl ?_;refine aL Tryz.func197 rfl rfl ?_;have cI:=(cv.bj [] 2 1 0 3 (by rfl) (by decide)).cJ;obtain ⟨cD,c0,c3,cQ⟩:=cI.fin;have b':=Q4 e3 (by omega);have hw:ha N (f+1) n d st=(true,(dt.set n 2)):=Q6 (d:=d) gD cY jz (by intro h; rcases h with h|h|⟨h1,aa⟩; omega; omega; first|exact absurd (show false=true from h1.symm.trans jz) oJ|(have:=congrArg List.length aa; simp only [List.length_nil] at this; omega)) b';exact aj.mk ⟨by rw [hw],cD,c0,by rw [hw]; exact c3,cQ⟩
theorem LO {p:Prop} (h:p:=by rw [←wO]; first|assumption|(symm; assumption)):p:=h
theorem afq {w0:World} {G:Nat→Prop} {dF:Nat} {fJ:Value} {aT:List cc} {N:List bC} (m':Row w0 dF 0 [fJ]) (iT:G dF) (hc:ak eR w0 G fJ aT) (jf:iC w0 G aT N) (fj:∀ b,G b→b < w0.heap.size) (og:N.length≤1000000) (gZ:∀ x∈N,x.2.length≤1000000) (ky:∀ x∈N,∀ e∈x.2,1≤e.to∧e.to < (N.length:Int)) (Dc:0 < N.length) :
 Calls Tryz.prog 174 #[ptr dF 0] w0 (aj fun aD ai=>aD=.bool (qX N)∧Ext w0 ai):=by
 have cC:∀ b,G b→¬ (fun _:Nat=>False) b:=fun _ _ h=>h
 have gB:=ar.hR w0;have wO:=(cx.get jf).1;refine bS Tryz.func174 rfl Tryz.ntmps174 rfl (.go 2 rfl (.ac (.box [ptr dF 0] rfl rfl fun ai aG au aJ c9 a1=>have bx:=(gB.dm au aJ a1).cJ;have f1:=bx.k 0;.go 4 rfl (.z (.fV pI f1) (.go 1 rfl (.z (.fieldAddr mV rfl) (have f2:=m'.keep bx.mod (cC _ iT);.z (.dT mU f2) (have f3:=bx.out hc cC;.z (.ca Tryz.underlying262 (f3) rfl) (.ac (.makeSlice (enc:=aA.encI) aT.length (0:Int) Tryz.underlying57 aP (by decide) rfl aA.fy rfl rfl (by omega) (by omega) (by omega) (by unfold maxLen; omega) fun v1 g1 aZ ax cf eY b7=>have bK:(List.replicate aT.length (0:Int)).length=aT.length:=List.length_replicate;have b2:=(bx.fU ax b7 (.inr (by omega))).cK;.ac (.alloc wI fun bz aN aM aK gh bH=>?_)))))))))));have bo:=(b2.dm aM aK bH).dM;obtain ⟨g2,f4,b6,bw⟩:=bo.bU (i:=1) rfl;obtain ⟨br,bs,ej⟩:=f4.shape;subst ej;have f5:=bo.k 2;refine .ac (.st wI f5 fun cj aW cE=>have bR:=(bo.cL (cs':=[(.slice br ((List.replicate aT.length (0:Int))).length bs)]) (i:=2) rfl aW cE).dM;.go 3 rfl (.ac (.alloc BC fun cM bn bh aV gL da=>have cI:=(bR.dm bh aV da).bu;.go 3 rfl (.z (.makeFunc (first:=[]) (cap:=[ptr aG 0,ptr aN 0,ptr bn 0]) rfl rfl) (have f6:=cI.k 3;.ac (.st BC f6 fun de bQ eT=>have b8:=(cI.cL (cs':=[.func (.func 197) #[] #[ptr aG 0,ptr aN 0,ptr bn 0]]) (i:=3) rfl bQ eT).bu;have f7:=b8.k 0;.go 3 rfl (.z (.fV pI f7) (.go 1 rfl (.z (.fieldAddr mV rfl) (have f8:=m'.keep b8.mod (cC _ iT);.z (.dT mU f8) (have f9:=b8.out hc cC;.z (.ca Tryz.underlying262 (f9) rfl) ?_)))))))))));refine .h8 (.eq rfl rfl) (fun bc=>?_) fun bc=>?_
 · refine .go 1 rfl (.z (.fV pI f7) (.go 1 rfl (.z (.fieldAddr mV rfl) (.z (.dT mU f8) ?_))));obtain ⟨aw,cR,fE,a7,c_,dG,cV⟩:=ak.eH (P:=Tryz.prog) f9 Tryz.underlying262 iQ l9 (k:=.i64) (n:=0) (0) (by omega) aU;refine .z (.indexAddr rfl rfl c_) (.z (.fieldAddr sR rfl) (have fM:=cV.sub 1 1 dx;.z (.dT ki fM) ?_));obtain ⟨gU,gD,qw,mG⟩:=jf.at a7;have HG:=gZ _ (List.mem_of_getElem? gD);have f10:=b8.out mG cC;refine .z (.ca Tryz.underlying219 (f10) rfl) (.h8 (.eq rfl rfl) (fun cy=>?_) fun cy=>?_)
   · exact .ae 7 rfl (aL Tryz.func174 rfl rfl (have hw:qX N=true:=(by first|exact J4 (by omega) (by assumption) (by omega)|(refine J5 LO ?_; first|exact .inl (by omega)|exact .inr ⟨_,by assumption,by omega⟩));aj.mk ⟨by rw [hw],b8.mod⟩))
   refine .go 2 rfl (have f11:=b8.k 3;.z (.fV BC f11) ?_);have bW:=(b8.bj [] 0 2 1 3 (by rfl) (by decide)).cJ;obtain ⟨jY,et,dZ,d'⟩:=bW.act (i:=0) rfl;refine .ac (.call (first:=[]) (cap:=[ptr aG 0,ptr aN 0,ptr bn 0]) Hh rfl rfl (zx (Uf 13 0 (0) et (fun b U=>(dZ b U).2) (m'.keep bW.mod (cC _ iT)) iT (hc.keep bW.mod cC) (jf.keep bW.mod cC) (fun b U ad=>by have:=(dZ b ad).1.1; rcases this with h|h; exact cC b U h; have:=fj b U; omega) (fun b U=>Nat.lt_of_lt_of_le (fj b U) bW.mod.size) og gZ ky (by first|omega|(simp only [List.length_replicate]; done)) (by omega) (by omega)) (by omega)) ?_);rintro _ dv ⟨rfl,b3,gb,gV,fu⟩;have ct:=(d' _ _ _ b3 gV fu).cJ;clear et dZ d' gV fu;generalize ck:(ha N 14 0 0 ((List.replicate aT.length (0:Int)))).1=hy;replace ck:=ck.symm;exact .ae 3 rfl (aL Tryz.func174 rfl rfl (have hw:qX N=hy:=(by first|exact J4 (by omega) (by assumption) (by omega)|(refine J5 LO ?_; first|exact .inl (by omega)|exact .inr ⟨_,by assumption,by omega⟩));aj.mk ⟨by rw [hw],ct.mod⟩))
 refine .go 1 rfl (have f10:=b8.k 3;.go 11 rfl (.z (.fV BC f10) ?_));have bW:=(b8.bj [] 0 2 1 3 (by rfl) (by decide)).cJ;obtain ⟨jY,et,dZ,d'⟩:=bW.act (i:=0) rfl;refine .ac (.call (first:=[]) (cap:=[ptr aG 0,ptr aN 0,ptr bn 0]) Hh rfl rfl (zx (Uf 13 0 (0) et (fun b U=>(dZ b U).2) (m'.keep bW.mod (cC _ iT)) iT (hc.keep bW.mod cC) (jf.keep bW.mod cC) (fun b U ad=>by have:=(dZ b ad).1.1; rcases this with h|h; exact cC b U h; have:=fj b U; omega) (fun b U=>Nat.lt_of_lt_of_le (fj b U) bW.mod.size) og gZ ky (by first|omega|(simp only [List.length_replicate]; done)) (by omega) (by omega)) (by omega)) ?_);rintro _ dv ⟨rfl,b3,gb,gV,fu⟩;have ct:=(d' _ _ _ b3 gV fu).cJ;clear et dZ d' gV fu;generalize cy:(ha N 14 0 0 ((List.replicate aT.length (0:Int)))).1=cR;replace cy:=cy.symm;exact .ae 3 rfl (aL Tryz.func174 rfl rfl (have hw:qX N=cR:=(by first|exact J4 (by omega) (by assumption) (by omega)|(refine J5 LO ?_; first|exact .inl (by omega)|exact .inr ⟨_,by assumption,by omega⟩));aj.mk ⟨by rw [hw],ct.mod⟩))
theorem na {p:Prop} (h:p:=by omega):p:=h
theorem LP {p:Prop} (h:p:=by first|exact .inl rfl|exact .inr (.inl (by omega))|exact .inr (.inr (by omega))):p:=h
theorem nD {p:Prop} (h:p:=by decide):p:=h
theorem afr:∀ (f:Nat) {w0:World} {F G:Nat→Prop} {kK eu ht gS:Nat} {l:List ag} {ok:Bool} {dF:Nat} {fJ:Value} {aT:List cc} {N:List bC} (n:Nat) (a:ag) (d:Int) (bg:(Rh (R:=fun _=>False) 4 23 99 285 9 198 kK eu ht gS dF ((l,ok))).p F w0) (bO:∀ b,F b→b < w0.heap.size) (m':Row w0 dF 0 [fJ]) (iT:G dF) (hc:ak eR w0 G fJ aT) (jf:iC w0 G aT N) (cC:∀ b,G b→¬ F b) (fj:∀ b,G b→b < w0.heap.size) (og:N.length≤1000000) (gZ:∀ x∈N,x.2.length≤1000000) (ky:∀ x∈N,∀ e∈x.2,1≤e.to∧e.to < (N.length:Int)) (aI:n < N.length) (hd:0≤d∧d≤13∧13≤d+f) (ao:(a.length:Int)≤4*d) (pk:l.length≤61),
 Calls Tryz.prog 198 #[.int .i64 (n:Int),aH a,.int .i64 d,ptr kK 0,ptr eu 0,ptr ht 0,ptr gS 0] w0 (aj fun aD ai=>aD=.tuple #[]∧Mod F w0 ai∧∃ cO,(Rh (R:=fun _=>False) 4 23 99 285 9 198 kK eu ht gS dF ((l_ N (f+1) n a d (l,ok)))).p cO ai∧∀ b,cO b→b < ai.heap.size∧(F b∨w0.heap.size≤b)):=by
 intro f
 induction f using Nat.strongRecOn with
 | _ f n' =>
 intro w0 F G kK eu ht gS l ok dF fJ aT N n a d bg bO m' iT hc jf cC fj og gZ ky aI hd ao pk;have gB:=ar.nu (R:=fun _=>False) bg (fun b U=>⟨bO b U,id⟩) (fun _ h=>h.elim);have wO:=(cx.get jf).1;change ar (fun _=>False) F w0 w0 [bA [az kK [.bool ok] 4,oY 23 9 1 cp eu l,az ht [ptr dF 0] 99,az gS [.func (.func 198) #[] #[ptr kK 0,ptr eu 0,ptr ht 0,ptr gS 0]] 285]] at gB;have cP:=(gB.un 0 rfl [] (by rfl) (by decide)).bu;obtain ⟨e2,bx⟩:=cP.iO (i:=1) rfl;change ar (fun _=>False) F w0 w0 [az kK [.bool ok] 4,bA [az eu [e2] 23,bb cp 9 1 e2 l],az ht [ptr dF 0] 99,az gS [.func (.func 198) #[] #[ptr kK 0,ptr eu 0,ptr ht 0,ptr gS 0]] 285] at bx;have bJ:=(bx.un 1 rfl [0,2,3] (by rfl) nD).c6;refine bS Tryz.func198 rfl Tryz.ntmps198 rfl ?_;have f1:=bJ.k 0;refine .go 3 rfl ?_;refine .z (.fV fW f1) ?_;cases ok
 case true =>
  refine .z (.not rfl) ?_;have f2:=bJ.k 3;refine .go 1 rfl ?_;refine .z (.fV n3 f2) ?_;obtain ⟨g1,f3,b6,bw⟩:=bJ.bU (i:=4) rfl;refine .z (.ca Tryz.underlying23 (f3.bl) rfl) ?_;refine .aX (.gt rfl rfl) (fun aJ=>?_) fun aJ=>?_
  · refine .go 9 rfl ?_;refine .ac (.store fW rfl rfl rfl rfl rfl f1 dx fun ai au c9 a1=>?_);have b2:=(bJ.cL (cs':=[.bool false]) (i:=0) rfl au a1).c6;refine .ae 1 rfl ?_;refine AF Tryz.func198 rfl ?_;have bP:=(b2.aN [0,1,2] 3 4 (by rfl) nD).bu;have bo:ar (fun _=>False) F w0 ai [az kK [.bool false] 4,az ht [ptr dF 0] 99,az gS [.func (.func 198) #[] #[ptr kK 0,ptr eu 0,ptr ht 0,ptr gS 0]] 285,oY 23 9 1 cp eu l]:=bP.hJ e2 (i:=3) rfl;have bR:=(bo.bj [] 0 3 1 2 (by rfl) nD).cJ;obtain ⟨cD,c0,c3,cQ⟩:=bR.fin;have hw:=J6 (N:=N) (f:=f) (n:=n) (a:=a) (d:=d) (l:=l) (ok:=true) LP;exact aj.mk ⟨rfl,cD,c0,by rw [hw]; exact c3,cQ⟩
  refine .go 3 rfl ?_;refine .aX (.gt rfl rfl) (fun aK=>?_) fun aK=>?_
  · refine .go 5 rfl ?_;refine .ac (.store fW rfl rfl rfl rfl rfl f1 dx fun ai au c9 a1=>?_);have b2:=(bJ.cL (cs':=[.bool false]) (i:=0) rfl au a1).c6;refine .ae 1 rfl ?_;refine AF Tryz.func198 rfl ?_;have bP:=(b2.aN [0,1,2] 3 4 (by rfl) nD).bu;have bo:ar (fun _=>False) F w0 ai [az kK [.bool false] 4,az ht [ptr dF 0] 99,az gS [.func (.func 198) #[] #[ptr kK 0,ptr eu 0,ptr ht 0,ptr gS 0]] 285,oY 23 9 1 cp eu l]:=bP.hJ e2 (i:=3) rfl;have bR:=(bo.bj [] 0 3 1 2 (by rfl) nD).cJ;obtain ⟨cD,c0,c3,cQ⟩:=bR.fin;have hw:=J6 (N:=N) (f:=f) (n:=n) (a:=a) (d:=d) (l:=l) (ok:=true) LP;exact aj.mk ⟨rfl,cD,c0,by rw [hw]; exact c3,cQ⟩
  refine .ae 2 rfl ?_;have f4:=bJ.k 1;refine .go 5 rfl ?_;refine .z (.fV pI f4) ?_;refine .go 1 rfl ?_;refine .z (.fieldAddr mV rfl) ?_;refine .z (.dT mU m') ?_;obtain ⟨aw,bn,fE,a7,bK,dG,cV⟩:=ak.eH (P:=Tryz.prog) hc Tryz.underlying262 iQ l9 (k:=.i64) (n:=((n:Nat):Int)) (n) na aU;refine .go 1 rfl ?_;refine .z (.indexAddr rfl rfl bK) ?_;refine .z (.fieldAddr DG rfl) ?_;have c_:=cV.sub 0 1 dx;refine .z (.dT fW c_) ?_;obtain ⟨gU,gD,qw,mG⟩:=jf.at a7;have HG:=gZ _ (List.mem_of_getElem? gD);obtain ⟨iI,nC⟩:∃ b,aw.fin=b:=⟨_,rfl⟩;first|rw [show eR aw=[.bool iI,aw.e.val] from by rw [←nC]; rfl]|rw [nC]
  have kk:iI=gU.1:=(by rw [←nC]; first|exact qw|exact qw.symm);refine .ae 1 rfl ?_;cases iI
  case true =>
   replace kk:=kk.symm;refine .go 2 rfl ?_;refine .z (.fV n3 f2) ?_;refine .go 1 rfl ?_;refine .ac (.buildSlice [aH a] Tryz.underlying23 dp rfl rfl rfl nD fun ai bj au aV c9 a1=>?_);have e1:=ak.eP (enc:=cp) a1 ([a]:List ag) 1 rfl rfl (by unfold maxLen; omega);have bP:=(bJ.iD au aV c9 e1).n6;obtain ⟨g3,f5,f',cB⟩:=bP.bU (i:=4) rfl;have f6:=bP.bl (i:=5) (k:=0) rfl rfl;refine .ac (.append f5 Tryz.underlying23 dp rfl hr xm rfl rfl (f6) ol gA fun v1 g2 aZ b7 ax cf eY=>?_);have bo:=(cB _ _ _ _ ax b7 cf).n6;clear cf;obtain ⟨g4,f7,hU,d_⟩:=bo.bU (i:=4) rfl;obtain ⟨br,bs,ej⟩:=f7.shape;subst ej;have f8:=bo.k 3;refine .ac (.st n3 f8 fun bz aM bH=>?_);have bR:=(bo.cL (cs':=[(.slice br ((l++[a])).length bs)]) (i:=3) rfl aM bH).n6;have f9:=bR.k 1;refine .go 3 rfl ?_;refine .z (.fV pI f9) ?_;refine .go 1 rfl ?_;refine .z (.fieldAddr mV rfl) ?_;have f10:=m'.keep bR.mod (cC _ iT);refine .z (.dT mU f10) ?_;have f11:=bR.out hc cC;obtain ⟨x2,cR,iv,cY,fM,h4,eL⟩:=ak.eH (P:=Tryz.prog) f11 Tryz.underlying262 iQ l9 (k:=.i64) (n:=((n:Nat):Int)) (n) na aU;obtain rfl:aw=x2:=Option.some.inj (a7.symm.trans cY);refine .go 1 rfl ?_;refine .z (.indexAddr rfl rfl fM) ?_;refine .z (.fieldAddr sR rfl) ?_;have iK:=eL.sub 1 1 dx;refine .z (.dT ki iK) ?_;have f12:=bR.out mG cC;refine .z (.ca Tryz.underlying219 (f12) rfl) ?_;have cv:=(bR.aN [0,1,2,5] 3 4 (by rfl) nD).c6;have cI:ar (fun _=>False) F w0 bz [az kK [.bool true] 4,az ht [ptr dF 0] 99,az gS [.func (.func 198) #[] #[ptr kK 0,ptr eu 0,ptr ht 0,ptr gS 0]] 285,ff cp [((.slice (some ⟨bj,0,none⟩) 1 1),[a])],oY 23 9 1 cp eu ((l++[a]))]:=cv.hJ (.slice br ((l++[a])).length bs) (i:=4) rfl;have zX:((l++[a]),true)=if gU.1=true then (l++[a],true) else (l,true):=by first|(rw [if_pos (by first|assumption|(symm; assumption))]; done)|(rw [if_neg (by simp only [*]; decide)]; done)
   have bW:=(cI.dj [0,4,1,2] (by rfl) nD).bu;refine .ae 3 rfl ?_;refine dU (I:=fun m E W=>∃ (ug:Bool) (k:Nat) (bl:List ag),E=[(1,aH a),(2,.int .i64 d),(6,ptr gS 0),(42,aw.e.val),(43,.int .i64 (((gU.2.length:Nat):Int))),(44,.int .i64 (((k:Nat):Int)))]∧m=gU.2.length-k∧ar (fun _=>False) F w0 W [az kK [.bool ug] 4,oY 23 9 1 cp eu bl,az ht [ptr dF 0] 99,az gS [.func (.func 198) #[] #[ptr kK 0,ptr eu 0,ptr ht 0,ptr gS 0]] 285]∧(gU.2.foldl (fun s e=>l_ N f e.to.toNat (a++eX e.rune) (d+1) s) (if gU.1=true then (l++[a],true) else (l,true))=(gU.2.drop k).foldl (fun s e=>l_ N f e.to.toNat (a++eX e.rune) (d+1) s) (bl,ug))∧(bl.length≤61)∧(k≤gU.2.length)) ?_ ?_
   · refine ⟨_,_,⟨(true:Bool),(0:Nat),((l++[a]):List ag),rfl,rfl,bW,(by (rw [List.drop_zero]; exact congrArg (fun q=>List.foldl _ q _) zX.symm)),(by first|omega|(simp only [List.length_append,List.length_cons,List.length_nil]; omega)),na⟩,⟨rfl,rfl,rfl,rfl,rfl,rfl,trivial⟩⟩
   · rintro _ _ cj ⟨ug,k,bl,rfl,rfl,b8,e3,afs,n4⟩ bV;refine .go 2 rfl ?_;refine .aX (.lt rfl rfl) (fun bc=>?_) fun bc=>?_
     · refine .ae 2 rfl ?_;have f13:=b8.out mG cC;obtain ⟨fA,hy,pP,hM,iL,jy,jn⟩:=ak.eH (P:=Tryz.prog) f13 Tryz.underlying219 dY j' (k:=.i64) (n:=((k:Nat):Int)) (k) na aU;refine .go 6 rfl ?_;refine .z (.indexAddr rfl rfl iL) ?_;refine .z (.c4 dY rfl (fun _ e=>e▸jn) rfl) ?_;have iw:=hM;have ra:=xM fA.rune;refine .ac (.alloc dY fun cM h5 aW cy gT cE=>?_);have cq:=(b8.dm aW cy cE).c6;have f14:=cq.k 4;refine .ac (.st dY f14 fun de bh da=>?_);have bF:=(cq.cL (cs':=[.int .i32 fA.rune,.int .i64 fA.to]) (i:=4) rfl bh da).c6;have f15:=bF.k 3;refine .go 2 rfl ?_;refine .z (.fV Dy f15) ?_;have f16:=bF.k 4;refine .a_ pL aP f16 ?_;refine .go 1 rfl ?_;refine .a_ pK hn f16 ?_;refine .z (.uQ (by kernel_rfl) Tryz.underlying9 rfl) ?_;refine .z (.tr rfl rfl (by first|omega|(simp only [List.length_append]; omega)|(simp only [List.length_append,List.length_cons,List.length_nil]; omega))) ?_;refine .go 1 rfl ?_;refine .z (.bZ ((d+1)) rfl rfl (by omega)) ?_;have cg:=(bF.bj [4] 0 1 2 3 (by rfl) nD).cK;have o4:=ky _ (List.mem_of_getElem? gD) _ (List.mem_of_getElem? hM);obtain ⟨f2,uf⟩:∃ f2,f=f2+1:=⟨f-1,by omega⟩;obtain ⟨jY,et,dZ,d'⟩:=cg.act (i:=1) rfl;refine .ac (.call (first:=[]) (cap:=[ptr kK 0,ptr eu 0,ptr ht 0,ptr gS 0]) Le rfl rfl (zx (n' f2 na ((fA.to).toNat) ((a++(eX fA.rune))) ((d+1)) et (fun b U=>(dZ b U).2) (m'.keep cg.mod (cC _ iT)) iT (hc.keep cg.mod cC) (jf.keep cg.mod cC) (fun b U ad=>by have:=(dZ b ad).1.1; rcases this with h|h; exact cC b U h; have:=fj b U; omega) (fun b U=>Nat.lt_of_lt_of_le (fj b U) cg.mod.size) og gZ ky na na (by first|omega|(simp only [List.length_append]; omega)|(simp only [List.length_nil]; omega)) (by first|omega|(simp only [List.length_nil]; omega))) na) ?_);rintro _ dv ⟨rfl,bQ,gb,gV,fu⟩;rw [←uf] at gV;have yg:=C6 N f ((fA.to).toNat) ((a++(eX fA.rune))) ((d+1)) (bl,ug) (by first|omega|(simp only [List.length_nil]; omega));obtain ⟨⟨yh,BX⟩,wV⟩:∃ x,x=(l_ N f ((fA.to).toNat) ((a++(eX fA.rune))) ((d+1)) (bl,ug)):=⟨_,rfl⟩;rw [←wV] at gV yg;dsimp only at yg;have cz:=(d' _ _ _ bQ gV fu).cK;clear et dZ d' gV fu;have cS:=(cz.un 1 rfl [0] (by rfl) nD).c6;refine .go 3 rfl ?_;refine .z (.bZ (((k+1:Nat):Int)) rfl rfl na) ?_;have b':=Q8 e3 iw;refine .ae 2 rfl ?_;try dsimp only at b'
       rw [←wV] at b';have dd:=(cS.dj [1,2,3,4] (by rfl) nD).bu;exact (bV _ _ _ ⟨(BX:Bool),(k+1:Nat),(yh:List ag),rfl,rfl,dd,(by first|exact b'|(exfalso; omega)),(by first|omega|(exfalso; omega)),(by first|omega|(exfalso; omega))⟩ na).sub ⟨rfl,rfl,rfl,rfl,rfl,rfl,trivial⟩
     refine .ae 4 rfl ?_;refine p3 Tryz.func198 rfl ?_;have ct:=(b8.bj [] 0 1 2 3 (by rfl) nD).cJ;obtain ⟨cD,c0,c3,cQ⟩:=ct.fin;have hw:=J7 (f:=f) (d:=d) (a:=a) (l:=l) (ok:=true) (by intro h; rcases h with h|h|h; exact absurd h nD; omega; omega) gD rfl (Q9 e3 na);exact aj.mk ⟨rfl,cD,c0,by rw [hw]; exact c3,cQ⟩
  replace kk:=kk.symm;refine .go 4 rfl ?_;refine .z (.fV pI f4) ?_;refine .go 1 rfl ?_;refine .z (.fieldAddr mV rfl) ?_;refine .z (.dT mU m') ?_;obtain ⟨x2,bj,iv,cY,fM,e1,eL⟩:=ak.eH (P:=Tryz.prog) hc Tryz.underlying262 iQ l9 (k:=.i64) (n:=((n:Nat):Int)) (n) na aU;obtain rfl:aw=x2:=Option.some.inj (a7.symm.trans cY);refine .go 1 rfl ?_;refine .z (.indexAddr rfl rfl fM) ?_;refine .z (.fieldAddr sR rfl) ?_;have iK:=eL.sub 1 1 dx;refine .z (.dT ki iK) ?_;refine .z (.ca Tryz.underlying219 (mG) rfl) ?_;have b2:=(bJ.aN [0,1,2] 3 4 (by rfl) nD).bu;have bP:ar (fun _=>False) F w0 w0 [az kK [.bool true] 4,az ht [ptr dF 0] 99,az gS [.func (.func 198) #[] #[ptr kK 0,ptr eu 0,ptr ht 0,ptr gS 0]] 285,oY 23 9 1 cp eu l]:=b2.hJ e2 (i:=3) rfl;have zX:(l,true)=if gU.1=true then (l++[a],true) else (l,true):=by first|(rw [if_pos (by first|assumption|(symm; assumption))]; done)|(rw [if_neg (by simp only [*]; decide)]; done)
  have bR:=(bP.dj [0,3,1,2] (by rfl) nD).bu;refine .ae 3 rfl ?_;refine dU (I:=fun m E W=>∃ (ug:Bool) (k:Nat) (bl:List ag),E=[(1,aH a),(2,.int .i64 d),(6,ptr gS 0),(42,aw.e.val),(43,.int .i64 (((gU.2.length:Nat):Int))),(44,.int .i64 (((k:Nat):Int)))]∧m=gU.2.length-k∧ar (fun _=>False) F w0 W [az kK [.bool ug] 4,oY 23 9 1 cp eu bl,az ht [ptr dF 0] 99,az gS [.func (.func 198) #[] #[ptr kK 0,ptr eu 0,ptr ht 0,ptr gS 0]] 285]∧(gU.2.foldl (fun s e=>l_ N f e.to.toNat (a++eX e.rune) (d+1) s) (if gU.1=true then (l++[a],true) else (l,true))=(gU.2.drop k).foldl (fun s e=>l_ N f e.to.toNat (a++eX e.rune) (d+1) s) (bl,ug))∧(bl.length≤61)∧(k≤gU.2.length)) ?_ ?_
  · refine ⟨_,_,⟨(true:Bool),(0:Nat),(l:List ag),rfl,rfl,bR,(by (rw [List.drop_zero]; exact congrArg (fun q=>List.foldl _ q _) zX.symm)),(by first|omega|(simp only [List.length_append,List.length_cons,List.length_nil]; omega)),na⟩,⟨rfl,rfl,rfl,rfl,rfl,rfl,trivial⟩⟩
  · rintro _ _ ai ⟨ug,k,bl,rfl,rfl,bo,e3,afs,n4⟩ bV;refine .go 2 rfl ?_;refine .aX (.lt rfl rfl) (fun aV=>?_) fun aV=>?_
    · refine .ae 2 rfl ?_;have f5:=bo.out mG cC;obtain ⟨fA,c8,pP,hM,iL,f',jn⟩:=ak.eH (P:=Tryz.prog) f5 Tryz.underlying219 dY j' (k:=.i64) (n:=((k:Nat):Int)) (k) na aU;refine .go 6 rfl ?_;refine .z (.indexAddr rfl rfl iL) ?_;refine .z (.c4 dY rfl (fun _ e=>e▸jn) rfl) ?_;have iw:=hM;have ra:=xM fA.rune;refine .ac (.alloc dY fun aZ hy au bc c9 a1=>?_);have cI:=(bo.dm au bc a1).c6;have f6:=cI.k 4;refine .ac (.st dY f6 fun bz ax bH=>?_);have b8:=(cI.cL (cs':=[.int .i32 fA.rune,.int .i64 fA.to]) (i:=4) rfl ax bH).c6;have f7:=b8.k 3;refine .go 2 rfl ?_;refine .z (.fV Dy f7) ?_;have f8:=b8.k 4;refine .a_ pL aP f8 ?_;refine .go 1 rfl ?_;refine .a_ pK hn f8 ?_;refine .z (.uQ (by kernel_rfl) Tryz.underlying9 rfl) ?_;refine .z (.tr rfl rfl (by first|omega|(simp only [List.length_append]; omega)|(simp only [List.length_append,List.length_cons,List.length_nil]; omega))) ?_;refine .go 1 rfl ?_;refine .z (.bZ ((d+1)) rfl rfl (by omega)) ?_;have bW:=(b8.bj [4] 0 1 2 3 (by rfl) nD).cK;have o4:=ky _ (List.mem_of_getElem? gD) _ (List.mem_of_getElem? hM);obtain ⟨f2,uf⟩:∃ f2,f=f2+1:=⟨f-1,by omega⟩;obtain ⟨jY,et,dZ,d'⟩:=bW.act (i:=1) rfl;refine .ac (.call (first:=[]) (cap:=[ptr kK 0,ptr eu 0,ptr ht 0,ptr gS 0]) Le rfl rfl (zx (n' f2 na ((fA.to).toNat) ((a++(eX fA.rune))) ((d+1)) et (fun b U=>(dZ b U).2) (m'.keep bW.mod (cC _ iT)) iT (hc.keep bW.mod cC) (jf.keep bW.mod cC) (fun b U ad=>by have:=(dZ b ad).1.1; rcases this with h|h; exact cC b U h; have:=fj b U; omega) (fun b U=>Nat.lt_of_lt_of_le (fj b U) bW.mod.size) og gZ ky na na (by first|omega|(simp only [List.length_append]; omega)|(simp only [List.length_nil]; omega)) (by first|omega|(simp only [List.length_nil]; omega))) na) ?_);rintro _ cj ⟨rfl,aM,gb,gV,fu⟩;rw [←uf] at gV;have yg:=C6 N f ((fA.to).toNat) ((a++(eX fA.rune))) ((d+1)) (bl,ug) (by first|omega|(simp only [List.length_nil]; omega));obtain ⟨⟨yh,BX⟩,wV⟩:∃ x,x=(l_ N f ((fA.to).toNat) ((a++(eX fA.rune))) ((d+1)) (bl,ug)):=⟨_,rfl⟩;rw [←wV] at gV yg;dsimp only at yg;have ct:=(d' _ _ _ aM gV fu).cK;clear et dZ d' gV fu;have cq:=(ct.un 1 rfl [0] (by rfl) nD).c6;refine .go 3 rfl ?_;refine .z (.bZ (((k+1:Nat):Int)) rfl rfl na) ?_;have b':=Q8 e3 iw;refine .ae 2 rfl ?_;try dsimp only at b'
      rw [←wV] at b';have bF:=(cq.dj [1,2,3,4] (by rfl) nD).bu;exact (bV _ _ _ ⟨(BX:Bool),(k+1:Nat),(yh:List ag),rfl,rfl,bF,(by first|exact b'|(exfalso; omega)),(by first|omega|(exfalso; omega)),(by first|omega|(exfalso; omega))⟩ na).sub ⟨rfl,rfl,rfl,rfl,rfl,rfl,trivial⟩
    refine .ae 4 rfl ?_;refine p3 Tryz.func198 rfl ?_;have cv:=(bo.bj [] 0 1 2 3 (by rfl) nD).cJ;obtain ⟨cD,c0,c3,cQ⟩:=cv.fin;have hw:=J7 (f:=f) (d:=d) (a:=a) (l:=l) (ok:=true) (by intro h; rcases h with h|h|h; exact absurd h nD; omega; omega) gD rfl (Q9 e3 na);exact aj.mk ⟨rfl,cD,c0,by rw [hw]; exact c3,cQ⟩
 refine .z (.not rfl) ?_;refine .go 13 rfl ?_;refine .ac (.st fW f1 fun ai au a1=>?_);have b2:=(bJ.cL (cs':=[.bool false]) (i:=0) rfl au a1).c6;refine .ae 1 rfl ?_;refine AF Tryz.func198 rfl ?_;have bP:=(b2.aN [0,1,2] 3 4 (by rfl) (by decide)).bu;have bo:ar (fun _=>False) F w0 ai [az kK [.bool false] 4,az ht [ptr dF 0] 99,az gS [.func (.func 198) #[] #[ptr kK 0,ptr eu 0,ptr ht 0,ptr gS 0]] 285,oY 23 9 1 cp eu l]:=bP.hJ e2 (i:=3) rfl;have bR:=(bo.bj [] 0 3 1 2 (by rfl) (by decide)).cJ;obtain ⟨cD,c0,c3,cQ⟩:=bR.fin;have hw:=J6 (N:=N) (f:=f) (n:=n) (a:=a) (d:=d) (l:=l) (ok:=false) LP;exact aj.mk ⟨rfl,cD,c0,by rw [hw]; exact c3,cQ⟩
theorem aft {w0:World} {G:Nat→Prop} {dF:Nat} {fJ:Value} {aT:List cc} {N:List bC} (m':Row w0 dF 0 [fJ]) (iT:G dF) (hc:ak eR w0 G fJ aT) (jf:iC w0 G aT N) (fj:∀ b,G b→b < w0.heap.size) (og:N.length≤1000000) (gZ:∀ x∈N,x.2.length≤1000000) (ky:∀ x∈N,∀ e∈x.2,1≤e.to∧e.to < (N.length:Int)) (Dc:0 < N.length) :
 Calls Tryz.prog 175 #[ptr dF 0] w0 (aj fun aD ai=>∃ v cZ,aD=.tuple #[v,.bool (iW N).2]∧Acc cp 9 1 ai cZ v (iW N).1∧(cZ=0∨w0.heap.size < cZ)∧Ext w0 ai):=by
 have cC:∀ b,G b→¬ (fun _:Nat=>False) b:=fun _ _ h=>h
 have gB:=ar.hR w0;have wO:=(cx.get jf).1;refine bS Tryz.func175 rfl Tryz.ntmps175 rfl (.go 2 rfl (.ac (.box [ptr dF 0] rfl rfl fun ai aG au aJ c9 a1=>have bx:=(gB.dm au aJ a1).cJ;.go 5 rfl (.ac (.alloc n3 fun aZ aN ax aK eY bH=>have b2:=(bx.dm ax aK bH).cK;.go 3 rfl (.ac (.alloc fW fun bz bn aM aV gh cE=>have bo:=(b2.dm aM aV cE).dM;have f1:=bo.k 2;.ac (.st fW f1 fun cj aW da=>have bR:=(bo.cL (cs':=[.bool true]) (i:=2) rfl aW da).dM;.go 3 rfl (.ac (.alloc Dy fun cM bj bh bc gL eT=>have cI:=(bR.dm bh bc eT).bu;.go 3 rfl (.z (.makeFunc (first:=[]) (cap:=[ptr bn 0,ptr aN 0,ptr aG 0,ptr bj 0]) rfl rfl) ?_)))))))))));have f2:=cI.k 3;refine .ac (.st Dy f2 fun de bQ fZ=>have b8:=(cI.cL (cs':=[.func (.func 198) #[] #[ptr bn 0,ptr aN 0,ptr aG 0,ptr bj 0]]) (i:=3) rfl bQ fZ).bu;have f3:=b8.k 3;.go 3 rfl (.z (.fV Dy f3) ?_));have bW:ar (fun _=>False) (fun _=>False) w0 de [az aG [ptr dF 0] 99,az aN [.slice none 0 0] 23,az bn [.bool true] 4,az bj [.func (.func 198) #[] #[ptr bn 0,ptr aN 0,ptr aG 0,ptr bj 0]] 285,bb cp 9 1 (.slice none 0 0) []]:=b8.fU (Mod.refl _ _) Acc.nil (.inl rfl);have ct:=(bW.aN [0,2,3] 1 4 (by rfl) (by decide)).bu;have cq:ar (fun _=>False) (fun _=>False) w0 de [az aG [ptr dF 0] 99,az bn [.bool true] 4,az bj [.func (.func 198) #[] #[ptr bn 0,ptr aN 0,ptr aG 0,ptr bj 0]] 285,oY 23 9 1 cp aN (([]:List ag))]:=ct.hJ (.slice none 0 0) (i:=3) rfl;have bF:=(cq.bj [] 1 3 0 2 (by rfl) (by decide)).cJ;obtain ⟨jY,et,dZ,d'⟩:=bF.act (i:=0) rfl;refine .ac (.call (first:=[]) (cap:=[ptr bn 0,ptr aN 0,ptr aG 0,ptr bj 0]) Le rfl rfl (zx (afr 13 (0) (([]:ag)) (0) et (fun b U=>(dZ b U).2) (m'.keep bF.mod (cC _ iT)) iT (hc.keep bF.mod cC) (jf.keep bF.mod cC) (fun b U ad=>by have:=(dZ b ad).1.1; rcases this with h|h; exact cC b U h; have:=fj b U; omega) (fun b U=>Nat.lt_of_lt_of_le (fj b U) bF.mod.size) og gZ ky (by omega) (by omega) (by first|omega|(simp only [List.length_append]; omega)|(simp only [List.length_nil]; omega)) (by first|omega|(simp only [List.length_nil]; omega))) (by omega)) ?_);rintro _ dv ⟨rfl,b3,gb,gV,fu⟩;have yg:=C6 N 14 0 (([]:ag)) (0) ([],true) (by first|omega|(simp only [List.length_nil]; omega));obtain ⟨⟨yh,BX⟩,wV⟩:∃ x,x=(l_ N 14 0 (([]:ag)) 0 ([],true)):=⟨_,rfl⟩;rw [←wV] at gV yg;dsimp only at yg;have cg:=(d' _ _ _ b3 gV fu).cJ;clear et dZ d' gV fu;have cz:=(cg.un 0 rfl [] (by rfl) (by decide)).bu;obtain ⟨e2,cS⟩:=cz.iO (i:=1) rfl;change ar (fun _=>False) (fun _=>False) w0 dv [az bn [.bool BX] 4,bA [az aN [e2] 23,bb cp 9 1 e2 yh],az aG [ptr dF 0] 99,az bj [.func (.func 198) #[] #[ptr bn 0,ptr aN 0,ptr aG 0,ptr bj 0]] 285] at cS;have dd:=(cS.un 1 rfl [0,2,3] (by rfl) (by decide)).c6;refine .ae 2 rfl (fx (fun i=>false) 9 (fun ah=>Mod (b5 0) dv ah) mixed (by kernel_rfl) fun en cF=>have dI:=dd.ext cF;have ri:Mod (b5 0) dv en:=Mod.gW cF;⟨ri,?_⟩);rw [show List.range' 0 (Array.size _)=[0,1,2,3,4,5,6,7,8] from rfl];have f4:=dd.k 3;refine .z rfl (.cT n3 rfl (fun _ an=>(f4.cell 0 _ rfl).bt an (Nat.succ_ne_zero _))) (have f5:=dd.k 0;.z rfl (.cT fW rfl (fun _ an=>(f5.cell 0 _ rfl).bt an (Nat.succ_ne_zero _))) (.gd 1 rfl ?_));cases BX
 case true =>
  refine .z rfl (.cT n3 rfl (fun _ an=>(f4.cell 0 _ rfl).bt an (Nat.succ_ne_zero _))) ?_;obtain ⟨g1,f6,b6,bw⟩:=dd.bU (i:=4) rfl;refine .z rfl (.ca Tryz.underlying23 (f6.bl) rfl) (.ev rfl (.le rfl rfl) fun cR cy=>.gd 3 rfl (.nil (bM Tryz.func175 rfl rfl rfl ?_)));have hw:iW N=(yh,cR):=Q' wV (by first|rfl|(rw [Bool.true_and]; first|(rw [cy]; exact decide_eq_decide.2 (by omega))|(symm; exact decide_eq_true (by omega))|(symm; exact decide_eq_false (by omega)))|(simp; done));obtain ⟨g2,b7,cf⟩:=dI.vb (i:=4) rfl;exact aj.mk ⟨_,g2,by rw [hw],by rw [hw]; exact b7,cf,dI.mod⟩
 refine .gd 6 rfl (.nil (bM Tryz.func175 rfl rfl rfl ?_));have hw:iW N=(yh,false):=Q' wV (by first|rfl|(rw [Bool.true_and]; first|(rw [pk]; exact decide_eq_decide.2 (by omega))|(symm; exact decide_eq_true (by omega))|(symm; exact decide_eq_false (by omega)))|(simp; done));obtain ⟨g1,b7,cf⟩:=dI.vb (i:=4) rfl;exact aj.mk ⟨_,g1,by rw [hw],by rw [hw]; exact b7,cf,dI.mod⟩
theorem afu {w0:World} {G:Nat→Prop} {dF:Nat} {fJ:Value} {aT:List cc} {N:List bC} {sg:Nat} {Ug:Value} {qx:List cc} {vw:List bC} (m':Row w0 dF 0 [fJ]) (iT:G dF) (hc:ak eR w0 G fJ aT) (jf:iC w0 G aT N) (fj:∀ b,G b→b < w0.heap.size) (og:N.length≤1000000) (gZ:∀ x∈N,x.2.length≤1000000) (vu:Row w0 sg 0 [Ug]) (afv:G sg) (HH:ak eR w0 G Ug qx) (Uh:iC w0 G qx vw) (akF:vw.length≤1000000) (afw:∀ x∈vw,x.2.length≤1000000) :
 Calls Tryz.prog 176 #[ptr dF 0,ptr sg 0] w0 (aj fun aD ai=>aD=.bool (decide (N=vw))∧Ext w0 ai):=by
 have cC:∀ b,G b→¬ (fun _:Nat=>False) b:=fun _ _ h=>h
 have gB:=ar.hR w0;have wO:=(cx.get jf).1;have Ui:=(cx.get Uh).1;refine bS Tryz.func176 rfl Tryz.ntmps176 rfl (.ae 6 rfl (fx (fun i=>false) 11 (fun ah=>Mod (b5 0) w0 ah) mixed (by kernel_rfl) fun ai au=>have cP:=gB.ext au;have zY:Mod (b5 0) w0 ai:=Mod.gW au;⟨zY,?_⟩));rw [show List.range' 0 (Array.size _)=[0,1,2,3,4,5,6,7,8,9,10] from rfl];refine .gd 2 rfl (.z rfl (.fieldAddr mV rfl) (.z rfl (.cT mU rfl (fun _ an=>m'.bt an (Nat.succ_ne_zero _))) (.z rfl (.ca Tryz.underlying262 (hc) rfl) (.gd 2 rfl (.z rfl (.fieldAddr mV rfl) (.z rfl (.cT mU rfl (fun _ an=>vu.bt an (Nat.succ_ne_zero _))) (.z rfl (.ca Tryz.underlying262 (HH) rfl) (.ev rfl (.ne rfl rfl) fun aG aJ=>.nil ?_))))))));cases aG
 case true =>
  replace aJ:=bne_iff_ne.1 aJ.symm;exact .ae 5 rfl (aL Tryz.func176 rfl rfl (have hw:decide (N=vw)=false:=(by first|exact Gn (by omega)|exact Gp gD s6 DY yi (by assumption)|exact C7 gD s6 (fun e=>by first|(have:=congrArg (fun q:bC=>q.2.length) e; simp only at this; omega)|(have:=congrArg (fun q:bC=>q.1) e; simp_all)));aj.mk ⟨by rw [hw],cP.mod⟩))
 replace aJ:=bne_eq_false_iff_eq.1 aJ.symm;refine .go 7 rfl (.z (.fieldAddr mV rfl) (have f1:=m'.keep cP.mod (cC _ iT);.z (.dT mU f1) (have f2:=cP.out hc cC;.z (.ca Tryz.underlying262 (f2) rfl) (.ae 3 rfl (dU (I:=fun m E W=>∃ (k:Nat),E=[(1,ptr sg 0),(24,fJ),(25,.int .i64 (((aT.length:Nat):Int))),(26,.int .i64 (((k:Nat):Int)))]∧m=N.length-k∧ar (fun _=>False) (fun _=>False) w0 W []∧(N.take k=vw.take k)∧(k≤N.length)) ?_ ?_)))))
 · refine ⟨_,_,⟨(0:Nat),rfl,rfl,cP,(by rfl),(by omega)⟩,⟨rfl,rfl,rfl,rfl,trivial⟩⟩
 · rintro _ _ aZ ⟨k,rfl,rfl,bx,bf,n4⟩ bV;refine .go 2 rfl (.aX (.lt rfl rfl) (fun aK=>?_) fun aK=>?_)
   · refine .ae 2 rfl ?_;have f3:=bx.out hc cC;obtain ⟨aw,bn,fE,a7,bK,b6,cV⟩:=ak.eH (P:=Tryz.prog) f3 Tryz.underlying262 iQ l9 (k:=.i64) (n:=((k:Nat):Int)) (k) (by omega) aU;refine .go 7 rfl (.z (.indexAddr rfl rfl bK) (.z (.c4 iQ rfl (fun _ e=>e▸cV) rfl) ?_));obtain ⟨gU,gD,qw,mG⟩:=jf.at a7;have HG:=gZ _ (List.mem_of_getElem? gD);obtain ⟨iI,nC⟩:∃ b,aw.fin=b:=⟨_,rfl⟩;first|rw [show eR aw=[.bool iI,aw.e.val] from by rw [←nC]; rfl]|rw [nC]
     have kk:iI=gU.1:=(by rw [←nC]; first|exact qw|exact qw.symm);refine .ac (.alloc iQ fun bz bj ax aV c9 a1=>have b2:=(bx.dm ax aV a1).cJ;have f4:=b2.k 0;.go 1 rfl (.ac (.st iQ f4 fun cj aM bH=>have bP:=(b2.cL (cs':=[.bool iI,aw.e.val]) (i:=0) rfl aM bH).cJ;.go 5 rfl (.z (.fieldAddr mV rfl) (have f5:=vu.keep bP.mod (cC _ afv);.z (.dT mU f5) ?_)))));have f6:=bP.out HH cC;obtain ⟨x2,cR,iv,cY,c_,dG,eL⟩:=ak.eH (P:=Tryz.prog) f6 Tryz.underlying262 iQ l9 (k:=.i64) (n:=((k:Nat):Int)) (k) (by omega) aU;refine .go 1 rfl (.z (.indexAddr rfl rfl c_) (.z (.c4 iQ rfl (fun _ e=>e▸eL) rfl) ?_));obtain ⟨LQ,s6,Uj,LR⟩:=Uh.at cY;have akG:=afw _ (List.mem_of_getElem? s6);obtain ⟨HI,LS⟩:∃ b,x2.fin=b:=⟨_,rfl⟩;first|rw [show eR x2=[.bool HI,x2.e.val] from by rw [←LS]; rfl]|rw [LS]
     have afx:HI=LQ.1:=(by rw [←LS]; first|exact Uj|exact Uj.symm);refine .ac (.alloc iQ fun cM c8 aW bc gh cE=>have bR:=(bP.dm aW bc cE).cK;have f7:=bR.k 1;.ac (.st iQ f7 fun de bh da=>have cv:=(bR.cL (cs':=[.bool HI,x2.e.val]) (i:=1) rfl bh da).cK;.go 4 rfl (have f8:=cv.k 0;.a_ DG fW f8 (have f9:=cv.k 1;.a_ DG fW f9 (.lW (.Xt Tryz.underlying4 rfl rfl) (fun cy=>?_) fun cy=>?_)))))
     · exact .ae 15 rfl (aL Tryz.func176 rfl rfl (have hw:decide (N=vw)=false:=(by first|exact Gn (by omega)|exact Gp gD s6 DY yi (by assumption)|exact C7 gD s6 (fun e=>by first|(have:=congrArg (fun q:bC=>q.2.length) e; simp only at this; omega)|(have:=congrArg (fun q:bC=>q.1) e; simp_all)));aj.mk ⟨by rw [hw],cv.mod⟩))
     refine .go 1 rfl (.a_ sR ki f8 (have f10:=cv.out mG cC;.z (.ca Tryz.underlying219 (f10) rfl) (.a_ sR ki f9 (have f11:=cv.out LR cC;.z (.ca Tryz.underlying219 (f11) rfl) (.lW (.ne rfl rfl) (fun ck=>?_) fun ck=>?_)))))
     · exact .ae 7 rfl (aL Tryz.func176 rfl rfl (have hw:decide (N=vw)=false:=(by first|exact Gn (by omega)|exact Gp gD s6 DY yi (by assumption)|exact C7 gD s6 (fun e=>by first|(have:=congrArg (fun q:bC=>q.2.length) e; simp only at this; omega)|(have:=congrArg (fun q:bC=>q.1) e; simp_all)));aj.mk ⟨by rw [hw],cv.mod⟩))
     refine .go 6 rfl (.a_ sR ki f8 (.z (.ca Tryz.underlying219 (f10) rfl) (have b8:=(cv.dj [1] (by rfl) (by decide)).cJ;.ae 3 rfl (dU (I:=fun m E W=>∃ (j:Nat),E=[(1,ptr sg 0),(7,ptr c8 0),(24,fJ),(25,.int .i64 (((aT.length:Nat):Int))),(26,.int .i64 (((k:Nat):Int))),(53,aw.e.val),(54,.int .i64 (((gU.2.length:Nat):Int))),(55,.int .i64 (((j:Nat):Int)))]∧m=gU.2.length-j∧ar (fun _=>False) (fun _=>False) w0 W [az c8 [.bool HI,x2.e.val] 238]∧(gU.2.take j=LQ.2.take j)∧(j≤gU.2.length)) ?_ ?_))))
     · refine ⟨_,_,⟨(0:Nat),rfl,rfl,b8,(by rfl),(by omega)⟩,⟨rfl,rfl,rfl,rfl,rfl,rfl,rfl,rfl,trivial⟩⟩
     · rintro _ _ dv ⟨j,rfl,rfl,cI,bk,LU⟩ fk;refine .go 2 rfl (.aX (.lt rfl rfl) (fun c'=>?_) fun c'=>?_)
       · refine .ae 2 rfl ?_;have f12:=cI.out mG cC;obtain ⟨fA,j3,pP,hM,fM,e1,jn⟩:=ak.eH (P:=Tryz.prog) f12 Tryz.underlying219 dY j' (k:=.i64) (n:=((j:Nat):Int)) (j) (by omega) aU;refine .go 7 rfl (.z (.indexAddr rfl rfl fM) (.z (.c4 dY rfl (fun _ e=>e▸jn) rfl) ?_));have DY:=hM;refine .ac (.alloc dY fun en mF bQ dq gL eT=>have ct:=(cI.dm bQ dq eT).cK;have f13:=ct.k 1;.go 1 rfl (.ac (.st dY f13 fun eE b3 fZ=>have cq:=(ct.cL (cs':=[.int .i32 fA.rune,.int .i64 fA.to]) (i:=1) rfl b3 fZ).cK;.ae 2 rfl (fx (fun i=>false) 7 (fun ah=>Mod (b5 0) eE ah) mixed (by kernel_rfl) fun eO cF=>have bF:=cq.ext cF;have rf:Mod (b5 0) eE eO:=Mod.gW cF;⟨rf,?_⟩))));rw [show List.range' 0 (Array.size _)=[0,1,2,3,4,5,6] from rfl];have f14:=cq.k 1;refine .z rfl (.c4 dY rfl (fun _ an=>f14.row.bt an (Nat.succ_ne_zero _)) rfl) (.z rfl (.fieldAddr sR rfl) (have f15:=cq.k 0;.z rfl (.cT ki rfl (fun _ an=>(f15.cell 1 _ rfl).bt an (Nat.succ_ne_zero _))) ?_));have f16:=cq.out LR cC;obtain ⟨fc,pQ,s0,ia,iK,f',ly⟩:=ak.eH (P:=Tryz.prog) f16 Tryz.underlying219 dY j' (k:=.i64) (n:=((j:Nat):Int)) (j) (by omega) aU;refine .gd 1 rfl (.z rfl (.indexAddr rfl rfl iK) (.z rfl (.c4 dY rfl (fun _ an=>ly.bt an (Nat.succ_ne_zero _)) rfl) (have yi:=ia;.ev rfl (.PH (by kernel_rfl) (ad8 fA fc) rfl rfl) fun zZ e8=>.nil ?_)));cases zZ
         case true =>
          replace e8:=PO e8;exact .ae 5 rfl (aL Tryz.func176 rfl rfl (have hw:decide (N=vw)=false:=(by first|exact Gn (by omega)|exact Gp gD s6 DY yi (by assumption)|exact C7 gD s6 (fun e=>by first|(have:=congrArg (fun q:bC=>q.2.length) e; simp only at this; omega)|(have:=congrArg (fun q:bC=>q.1) e; simp_all)));aj.mk ⟨by rw [hw],bF.mod⟩))
         replace e8:=PQ e8;exact .go 4 rfl (.z (.bZ (((j+1:Nat):Int)) rfl rfl (by omega)) (have cg:=(bF.dj [0] (by rfl) (by decide)).cJ;.ae 2 rfl ((fk _ _ _ ⟨(j+1:Nat),rfl,rfl,cg,(by first|(refine Re bk DY ?_; first|(rw [show fA=fc from by assumption]; exact yi)|exact yi)|(exfalso; omega)),(by first|omega|(exfalso; omega))⟩ (by omega)).sub ⟨rfl,rfl,rfl,rfl,rfl,rfl,rfl,rfl,trivial⟩)))
       exact .go 6 rfl (.z (.bZ (((k+1:Nat):Int)) rfl rfl (by omega)) (have dL:gU=LQ:=aap (by rw [←kk,←afx]; assumption) (Rf bk (by omega) (by omega));have bW:=(cI.dj [] (by rfl) (by decide)).Tq;.ae 2 rfl ((bV _ _ _ ⟨(k+1:Nat),rfl,rfl,bW,(by first|exact Re bf gD (dL▸s6)|(exfalso; omega)),(by first|omega|(exfalso; omega))⟩ (by omega)).sub ⟨rfl,rfl,rfl,rfl,trivial⟩)))
   exact .ae 8 rfl (aL Tryz.func176 rfl rfl (have hw:decide (N=vw)=true:=decide_eq_true (Rf bf (by omega) (by omega));aj.mk ⟨by rw [hw],bx.mod⟩))
theorem afy {w0:World} {G:Nat→Prop} {BY:Value} {aT:List cc} {N:List bC} (hc:ak eR w0 G BY aT) (jf:iC w0 G aT N) (fj:∀ b,G b→b < w0.heap.size) (og:N.length≤1000000) (gZ:∀ x∈N,x.2.length≤1000000) :
 Calls Tryz.prog 140 #[BY] w0 (aj fun aD ai=>(∃ cn al,gp 0 ai cn al aD (kd N)∧w0.heap.size≤cn∧al≤ai.heap.size)∧Ext w0 ai):=by
 have cC:∀ b,G b→¬ (fun _:Nat=>False) b:=fun _ _ h=>h
 have gB:=ar.hR w0;have wO:=(cx.get jf).1;have hle:=hc.le;refine bS Tryz.func140 rfl Tryz.ntmps140 rfl ?_;refine .go 6 rfl ?_;refine .z (.build (vs:=#[]) (v:=.agg #[.slice none 0 0]) rfl (fun _=>by kernel_rfl)) ?_;refine .ac (.box [.slice none 0 0] rfl rfl fun ai aG au aJ c9 a1=>?_);have bx:=(gB.dm au aJ a1).cJ;have bJ:ar (fun _=>False) (fun _=>False) w0 ai [az aG [.slice none 0 0] 264,bb eR 238 2 (.slice none 0 0) []]:=bx.fU (Mod.refl _ _) Acc.nil (.inl rfl);have b2:=(bJ.aN [] 0 1 (by rfl) (by decide)).cJ;have bP:ar (fun _=>False) (fun _=>False) w0 ai [oY 264 238 2 eR aG (([]:List cc))]:=b2.hJ (.slice none 0 0) (i:=0) rfl;have bo:=(bP.ty (oY 264 238 2 eR aG ((aT.take 0))) 0 rfl (fun eS bN=>by rw [List.take_zero]; exact bN)).cJ;have f1:=bo.out hc cC;refine .go 6 rfl ?_;refine .z (.ca Tryz.underlying218 (f1) rfl) ?_;refine .ae 3 rfl ?_;refine dU (I:=fun m E W=>∃ (k:Nat),E=[(0,BY),(3,ptr aG 0),(14,BY),(15,.int .i64 (((aT.length:Nat):Int))),(16,.int .i64 (((k:Nat):Int)))]∧m=aT.length-k∧ar (fun _=>False) (fun _=>False) w0 W [oY 264 238 2 eR aG ((aT.take k))]∧((N.take k).all (fun x:bC=>x.2.all (fun e:bm=>decide (1≤e.to∧e.to < (N.length:Int))))=true)∧(k≤aT.length)) ?_ ?_
 · refine ⟨_,_,⟨(0:Nat),rfl,rfl,bo,(by rfl),(by omega)⟩,⟨rfl,rfl,rfl,rfl,rfl,trivial⟩⟩
 · rintro _ _ aZ ⟨k,rfl,rfl,bR,Uk,n4⟩ bV;refine .go 2 rfl ?_;refine .aX (.lt rfl rfl) (fun aK=>?_) fun aK=>?_
   · refine .ae 2 rfl ?_;have f2:=bR.out hc cC;obtain ⟨aw,bn,fE,a7,bK,b6,cV⟩:=ak.eH (P:=Tryz.prog) f2 Tryz.underlying218 mT l9 (k:=.i64) (n:=((k:Nat):Int)) (k) (by omega) aU;refine .go 6 rfl ?_;refine .z (.indexAddr rfl rfl bK) ?_;refine .z (.c4 mT rfl (fun _ e=>e▸cV) rfl) ?_;obtain ⟨gU,gD,qw,mG⟩:=jf.at a7;have HG:=gZ _ (List.mem_of_getElem? gD);obtain ⟨iI,nC⟩:∃ b,aw.fin=b:=⟨_,rfl⟩;first|rw [show eR aw=[.bool iI,aw.e.val] from by rw [←nC]; rfl]|rw [nC]
     have kk:iI=gU.1:=(by rw [←nC]; first|exact qw|exact qw.symm);refine .ac (.alloc mT fun bz bj ax aV eY bH=>?_);have cI:=(bR.dm ax aV bH).cK;have f3:=cI.k 1;refine .ac (.st mT f3 fun cj aM cE=>?_);have b8:=(cI.cL (cs':=[.bool iI,aw.e.val]) (i:=1) rfl aM cE).cK;refine .go 4 rfl ?_;have f4:=b8.k 1;refine .a_ vo ki f4 ?_;have f5:=b8.out mG cC;refine .z (.ca Tryz.underlying219 (f5) rfl) ?_;refine .ae 3 rfl ?_;refine dU (I:=fun m E W=>∃ (j:Nat),E=[(0,BY),(3,ptr aG 0),(5,ptr bj 0),(14,BY),(15,.int .i64 (((aT.length:Nat):Int))),(16,.int .i64 (((k:Nat):Int))),(21,aw.e.val),(22,.int .i64 (((gU.2.length:Nat):Int))),(23,.int .i64 (((j:Nat):Int)))]∧m=gU.2.length-j∧ar (fun _=>False) (fun _=>False) w0 W [oY 264 238 2 eR aG ((aT.take k)),az bj [.bool iI,aw.e.val] 221]∧((gU.2.take j).all (fun e:bm=>decide (1≤e.to∧e.to < (N.length:Int)))=true)∧(j≤gU.2.length)) ?_ ?_
     · refine ⟨_,_,⟨(0:Nat),rfl,rfl,b8,(by rfl),(by omega)⟩,⟨rfl,rfl,rfl,rfl,rfl,rfl,rfl,rfl,rfl,trivial⟩⟩
     · rintro _ _ cM ⟨j,rfl,rfl,bW,Ul,LU⟩ fk;refine .go 2 rfl ?_;refine .aX (.lt rfl rfl) (fun bc=>?_) fun bc=>?_
       · refine .ae 2 rfl ?_;have f6:=bW.out mG cC;obtain ⟨x2,c8,iv,cY,c_,dG,eL⟩:=ak.eH (P:=Tryz.prog) f6 Tryz.underlying219 dY j' (k:=.i64) (n:=((j:Nat):Int)) (j) (by omega) aU;refine .go 6 rfl ?_;refine .z (.indexAddr rfl rfl c_) ?_;refine .z (.c4 dY rfl (fun _ e=>e▸eL) rfl) ?_;have iw:=cY;refine .ac (.alloc dY fun de hy aW cy gT da=>?_);have ct:=bW.ext aW;have cq:=(bW.dm aW cy da).dM;have f7:=cq.k 2;refine .ac (.store dY rfl rfl rfl rfl rfl f7 dx fun dv bh gL eT=>?_);have bF:=(cq.cL (cs':=[.int .i32 x2.rune,.int .i64 x2.to]) (i:=2) rfl bh eT).dM;refine .go 3 rfl ?_;have f8:=bF.k 2;refine .a_ pL aP f8 ?_;refine .aX (.lt rfl rfl) (fun ck=>?_) fun ck=>?_
         · refine .ae 13 rfl ?_;refine aL Tryz.func140 rfl rfl ?_;have hw:kd N=[]:=wq (fun ⟨ea,q2,fb,fT,gK,mQ,z1⟩=>by first|exact absurd ea (xN gD iw (by omega))|omega|(rw [fT] at *; simp_all; done)|(rw [gK] at *; simp_all; done)|(simp_all; done));exact aj.mk ⟨⟨w0.heap.size,w0.heap.size,.inl ⟨rfl,hw⟩,Nat.le_refl _,bF.mod.size⟩,bF.mod⟩
         refine .go 1 rfl ?_;refine .a_ pL aP f8 ?_;have f9:=bF.out hc cC;refine .go 1 rfl ?_;refine .z (.ca Tryz.underlying218 (f9) rfl) ?_;refine .aX (.ge rfl rfl) (fun c'=>?_) fun c'=>?_
         · refine .ae 7 rfl ?_;refine aL Tryz.func140 rfl rfl ?_;have hw:kd N=[]:=wq (fun ⟨ea,q2,fb,fT,gK,mQ,z1⟩=>by first|exact absurd ea (xN gD iw (by omega))|omega|(rw [fT] at *; simp_all; done)|(rw [gK] at *; simp_all; done)|(simp_all; done));exact aj.mk ⟨⟨w0.heap.size,w0.heap.size,.inl ⟨rfl,hw⟩,Nat.le_refl _,bF.mod.size⟩,bF.mod⟩
         refine .go 6 rfl ?_;refine .z (.bZ (((j+1:Nat):Int)) rfl rfl (by omega)) ?_;have cg:=(bF.dj [0,1] (by rfl) (by decide)).cK;refine .ae 2 rfl ?_;exact (fk _ _ _ ⟨(j+1:Nat),rfl,rfl,cg,(by first|exact y1 Ul iw (decide_eq_true ⟨by omega,by omega⟩)|(exfalso; omega)),(by first|omega|(exfalso; omega))⟩ (by omega)).sub ⟨rfl,rfl,rfl,rfl,rfl,rfl,rfl,rfl,rfl,trivial⟩
       refine .ae 2 rfl ?_;obtain ⟨e2,ct⟩:=bW.iO (i:=0) rfl;change ar (fun _=>False) (fun _=>False) w0 cM [bA [az aG [e2] 264,bb eR 238 2 e2 ((aT.take k))],az bj [.bool iI,aw.e.val] 221] at ct;have cq:=(ct.un 0 rfl [1] (by rfl) (by decide)).dM;obtain ⟨g1,f6,dG,bw⟩:=cq.bU (i:=2) rfl;refine .ae 2 rfl ?_;refine fx (fun i=>Nat.beq i 10 || Nat.beq i 11 || Nat.beq i 14) 14 (fun ah=>Mod (b5 g1) cM ah) mixed (by kernel_rfl) fun de aW=>?_
       have bF:=cq.ext aW;have k9:Mod (b5 g1) cM de:=Mod.gW aW;refine ⟨k9,?_⟩;rw [show List.range' 0 (Array.size _)=[0,1,2,3,4,5,6,7,8,9,10,11,12,13,14] from rfl];refine .gd 3 rfl ?_;refine .z rfl (.fieldAddr mV rfl) ?_;have f7:=cq.k 1;refine .z rfl (.cT mU rfl (fun _ an=>(f7.cell 0 _ rfl).bt an (cq.ne (i:=2) (j:=1) rfl rfl (by decide) f6))) ?_;refine .z rfl (.fieldAddr ad6 rfl) ?_;have f8:=cq.k 0;refine .z rfl (.cT fW rfl (fun _ an=>(f8.cell 0 _ rfl).bt an (cq.ne (i:=2) (j:=0) rfl rfl (by decide) f6))) ?_;refine .z rfl (.fieldAddr vo rfl) ?_;refine .z rfl (.cT ki rfl (fun _ an=>(f8.cell 1 _ rfl).bt an (cq.ne (i:=2) (j:=0) rfl rfl (by decide) f6))) ?_;refine .z rfl (.build (vs:=#[(0,(.bool iI:Value)),(1,aw.e.val)]) (v:=.agg #[.bool iI,aw.e.val]) rfl (fun _=>by kernel_rfl)) ?_;refine .ac rfl (.buildSlice [(.agg #[.bool iI,aw.e.val]:Value)] Tryz.underlying262 iQ rfl rfl rfl (by decide) fun dv c8 bh cy gT da=>?_);have e1:=ak.eP (enc:=eR) da ([(cc.mk iI aw.e)]:List cc) 1 rfl rfl (by unfold maxLen; omega);have cz:=(bF.iD bh cy gT e1).bu;have lY:=k9.ext bh;refine ⟨.inr lY,?_⟩;obtain ⟨g3,f9,f',cB⟩:=cz.bU (i:=2) rfl;have sV:=Acc.uniq f6 f9;subst sV;have f10:=cz.bl (i:=3) (k:=0) rfl rfl;refine .ac rfl (.append f9 Tryz.underlying262 iQ rfl l9 CQ rfl rfl (f10) ol gA fun v1 g2 en b7 bQ cf gL=>?_);have cS:=(cB _ _ _ _ bQ b7 cf).bu;have ri:=lY.trans bQ;refine ⟨.inr ri,?_⟩;clear cf;refine .gd 1 rfl ?_;refine .z rfl (.fieldAddr mV rfl) ?_;obtain ⟨g4,f11,hU,d_⟩:=cS.bU (i:=2) rfl;obtain ⟨br,bs,ej⟩:=f11.shape;subst ej;have f12:=cS.k 1;refine .ac rfl (.st mU f12 fun eE b3 eT=>?_);have dd:=(cS.cL (cs':=[(.slice br (((aT.take k)++[(cc.mk iI aw.e)])).length bs)]) (i:=1) rfl b3 eT).bu;refine ⟨.inl rfl,?_⟩;refine .nil ?_;have dI:=(dd.aN [0,3] 1 2 (by rfl) (by decide)).dM;have eF:ar (fun _=>False) (fun _=>False) w0 eE [az bj [.bool iI,aw.e.val] 221,ff eR [((.slice (some ⟨c8,0,none⟩) 1 1),[(cc.mk iI aw.e)])],oY 264 238 2 eR aG (((aT.take k)++[(cc.mk iI aw.e)]))]:=dI.hJ (.slice br (((aT.take k)++[(cc.mk iI aw.e)])).length bs) (i:=2) rfl;have dK:=(eF.ty (oY 264 238 2 eR aG ((aT.take (k+1)))) 2 rfl (fun eS bN=>by rw [List.take_add_one,a7]; first|exact bN|(rw [←nC] at bN; exact bN))).dM;refine .go 2 rfl ?_;refine .z (.bZ (((k+1:Nat):Int)) rfl rfl (by omega)) ?_;have ds:=(dK.dj [2] (by rfl) (by decide)).cJ;refine .ae 2 rfl ?_;exact (bV _ _ _ ⟨(k+1:Nat),rfl,rfl,ds,(by first|exact y1 Uk gD (by rwa [List.take_of_length_le (by omega)] at Ul)|(exfalso; omega)),(by first|omega|(exfalso; omega))⟩ (by omega)).sub ⟨rfl,rfl,rfl,rfl,rfl,trivial⟩
   refine .ae 2 rfl ?_;have cv:=(bR.ty (oY 264 238 2 eR aG aT) 0 rfl (fun eS bN=>by rw [List.take_of_length_le (by omega)] at bN; exact bN)).cJ;have LV:wo N=true:=(by unfold wo; rwa [List.take_of_length_le (by omega)] at Uk);obtain ⟨e2,cI⟩:=cv.iO (i:=0) rfl;change ar (fun _=>False) (fun _=>False) w0 aZ [bA [az aG [e2] 264,bb eR 238 2 e2 aT]] at cI;have b8:=(cI.un 0 rfl [] (by rfl) (by decide)).cK;have f2:=b8.out hc cC;refine .go 6 rfl ?_;refine .z (.ca Tryz.underlying218 (f2) rfl) ?_;refine .h8 (.eq rfl rfl) (fun aV=>?_) fun aV=>?_
   · refine .ae 16 rfl ?_;refine aL Tryz.func140 rfl rfl ?_;have hw:kd N=[]:=wq (fun ⟨ea,q2,fb,fT,gK,mQ,z1⟩=>by first|exact absurd ea (xN gD iw (by omega))|omega|(rw [fT] at *; simp_all; done)|(rw [gK] at *; simp_all; done)|(simp_all; done));exact aj.mk ⟨⟨w0.heap.size,w0.heap.size,.inl ⟨rfl,hw⟩,Nat.le_refl _,b8.mod.size⟩,b8.mod⟩
   refine .go 2 rfl ?_;refine .z (.ca Tryz.underlying218 (f2) rfl) ?_;refine .aX (.gt rfl rfl) (fun bc=>?_) fun bc=>?_
   · refine .ae 12 rfl ?_;refine aL Tryz.func140 rfl rfl ?_;have hw:kd N=[]:=wq (fun ⟨ea,q2,fb,fT,gK,mQ,z1⟩=>by first|exact absurd ea (xN gD iw (by omega))|omega|(rw [fT] at *; simp_all; done)|(rw [gK] at *; simp_all; done)|(simp_all; done));exact aj.mk ⟨⟨w0.heap.size,w0.heap.size,.inl ⟨rfl,hw⟩,Nat.le_refl _,b8.mod.size⟩,b8.mod⟩
   refine .go 2 rfl ?_;have f3:=b8.k 0;obtain ⟨Um,DZ,D0,_⟩:=b8.bU (i:=1) rfl;have rj:=J8 f3 DZ D0 (jf.keep b8.mod cC) (fun b U=>Nat.lt_of_lt_of_le (fj b U) b8.mod.size);refine .go 1 rfl ?_;refine .ac (.aE aev rfl (afq (w0:=aZ) (G:=fun b=>b < aZ.heap.size) rj.1 rj.2.1 rj.2.2.1 rj.2.2.2 (fun _ h=>h) og gZ (Gm.1 LV) (by omega)) ?_);rintro _ bz ⟨rfl,ax⟩;have bW:=b8.ext ax;generalize cy:qX N=cR;replace cy:=cy.symm;cases cR
   case true =>
    replace cy:=cy.symm;refine .z (.not rfl) ?_;have f4:=bW.k 0;obtain ⟨akH,afz,afA,_⟩:=bW.bU (i:=1) rfl;have lB:=J8 f4 afz afA (jf.keep bW.mod cC) (fun b U=>Nat.lt_of_lt_of_le (fj b U) bW.mod.size);refine .go 7 rfl ?_;refine .ac (.aE aew rfl (aft (w0:=bz) (G:=fun b=>b < bz.heap.size) lB.1 lB.2.1 lB.2.2.1 lB.2.2.2 (fun _ h=>h) og gZ (Gm.1 LV) (by omega)) ?_);rintro _ cj ⟨v1,h2,rfl,b7,cf,aM⟩;have cq:=(bW.fU aM b7 cf).dM;clear cf;have:=aao N;generalize ck:(iW N).2=c8;replace ck:=ck.symm;refine .go 10 rfl ?_;cases c8
    case true =>
     replace ck:=ck.symm;refine .z (.not rfl) ?_;obtain ⟨g1,f5,b6,bw⟩:=cq.bU (i:=2) rfl;refine .go 6 rfl ?_;refine .ac (.aE TP rfl (Ub (w0:=cj) (words:=(iW N).1) (f5.bl.b0 (Nat.zero_le _) f5.lt) (aan N) (by omega)) ?_);rintro _ cM ⟨DX,_,rfl,⟨LK,wU,n9,BU,BV⟩,rfl,aW⟩;have:=uX (iW N).1;have cg:ar (fun _=>False) (fun _=>False) w0 cM [az aG [e2] 264,bb eR 238 2 e2 aT,bb cp 9 1 v1 ((iW N).1),vf DX (gI (iW N).1)]:=cq.JZ aW n9 BU BV;refine .go 10 rfl ?_;refine .lW (.ne rfl rfl) (fun c'=>?_) fun c'=>?_
     · refine .ae 12 rfl ?_;refine aL Tryz.func140 rfl rfl ?_;have hw:kd N=[]:=wq (fun ⟨ea,q2,fb,fT,gK,mQ,z1⟩=>by first|exact absurd ea (xN gD iw (by omega))|omega|(rw [fT] at *; simp_all; done)|(rw [gK] at *; simp_all; done)|(simp_all; done));exact aj.mk ⟨⟨w0.heap.size,w0.heap.size,.inl ⟨rfl,hw⟩,Nat.le_refl _,cg.mod.size⟩,cg.mod⟩
     refine .go 1 rfl ?_;have f6:=cg.k 0;obtain ⟨akI,afB,afC,_⟩:=cg.bU (i:=1) rfl;have HJ:=J8 f6 afB afC (jf.keep cg.mod cC) (fun b U=>Nat.lt_of_lt_of_le (fj b U) cg.mod.size);obtain ⟨afD,F0,LW,Un⟩:=cg.QV (i:=3) rfl;have ml:eD (iW N).1=0:=(by first|assumption|omega);have HB:=A8 ml;obtain ⟨akJ,akK,akL,ej,afE,afF,afG,afH⟩:=aar LW (QP ml) Un;refine .go 2 rfl ?_;subst ej;refine .ac (.aE aex rfl (afu (w0:=cM) (G:=fun b=>b < cM.heap.size) afE afF afG afH (fun _ h=>h) HB.xy.2.1 HB.xy.2.2 HJ.1 HJ.2.1 HJ.2.2.1 HJ.2.2.2 og gZ) ?_);rintro _ de ⟨rfl,bh⟩;have cz:=cg.ext bh;generalize dq:decide (gI (iW N).1=N)=h5;replace dq:=dq.symm;cases h5
     case true =>
      replace dq:=Bz dq;refine .z (.not rfl) ?_;refine .ae 9 rfl ?_;refine aL Tryz.func140 rfl rfl ?_;have hw:kd N=gI (iW N).1:=Rc ⟨LV,by omega,by omega,by assumption,by assumption,ml,by assumption⟩;obtain ⟨LX,D1,LY,LZ,L0⟩:=cz.Rg (i:=3) rfl (QP ml);exact aj.mk ⟨⟨LX,D1,by rw [hw]; exact LY,LZ,L0⟩,cz.mod⟩
     replace dq:=BA dq;refine .z (.not rfl) ?_;refine .ae 7 rfl ?_;refine aL Tryz.func140 rfl rfl ?_;have hw:kd N=[]:=wq (fun ⟨ea,q2,fb,fT,gK,mQ,z1⟩=>by first|exact absurd ea (xN gD iw (by omega))|omega|(rw [fT] at *; simp_all; done)|(rw [gK] at *; simp_all; done)|(simp_all; done));exact aj.mk ⟨⟨w0.heap.size,w0.heap.size,.inl ⟨rfl,hw⟩,Nat.le_refl _,cz.mod.size⟩,cz.mod⟩
    replace ck:=ck.symm;refine .z (.not rfl) ?_;refine .ae 6 rfl ?_;refine aL Tryz.func140 rfl rfl ?_;have hw:kd N=[]:=wq (fun ⟨ea,q2,fb,fT,gK,mQ,z1⟩=>by first|exact absurd ea (xN gD iw (by omega))|omega|(rw [fT] at *; simp_all; done)|(rw [gK] at *; simp_all; done)|(simp_all; done));exact aj.mk ⟨⟨w0.heap.size,w0.heap.size,.inl ⟨rfl,hw⟩,Nat.le_refl _,cq.mod.size⟩,cq.mod⟩
   replace cy:=cy.symm;refine .z (.not rfl) ?_;refine .ae 7 rfl ?_;refine aL Tryz.func140 rfl rfl ?_;have hw:kd N=[]:=wq (fun ⟨ea,q2,fb,fT,gK,mQ,z1⟩=>by first|exact absurd ea (xN gD iw (by omega))|omega|(rw [fT] at *; simp_all; done)|(rw [gK] at *; simp_all; done)|(simp_all; done));exact aj.mk ⟨⟨w0.heap.size,w0.heap.size,.inl ⟨rfl,hw⟩,Nat.le_refl _,bW.mod.size⟩,bW.mod⟩
end Go.Proofs
