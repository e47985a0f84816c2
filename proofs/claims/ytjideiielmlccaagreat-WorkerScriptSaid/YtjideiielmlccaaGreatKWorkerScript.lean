/-
  WorkerScript: the law returns true for every configuration, number and list of acts, and its arguments read as before. No condition.
-/
import Derived.Test.YtjideiielmlccaaGreatRows
import Derived.Test.YtjideiielmlccaaGreatSWorkerScriptG
set_option linter.unusedVariables false
set_option linter.unusedSimpArgs false
namespace Go.Proofs.YtjideiielmlccaaGreat
open Go.aG Go.ak Go.ChangeShapes Go.WideShapes Go.ChangeAt Go.RowKit
open Go.ChangeMaps (open_string shut_string)
namespace workerScript
theorem aqm:yA Tryz.prog 33 eK b4.Ok:=λfuel cs x h=>by
 obtain⟨n,bl,bD⟩:=El Tryz.underlying33 h
 rw[show Tryz.prog.cellsOf 33=2 from by kernel_rfl] at bl
 match cs,bl with
 | [fp,c1],_ =>
  obtain⟨Q8,bK⟩:=bD 0 _ 3 0 1 rfl rfl rfl c6
  obtain⟨a0,j5,s_⟩:=(nB Tryz.underlying3) _ _ _ bK
  obtain⟨Q9,h1⟩:=bD 1 _ 9 1 1 rfl rfl rfl c6
  obtain⟨ib,fU,bt⟩:=(Hn Tryz.underlying9) _ _ _ h1
  refine⟨⟨a0,ib⟩,?_,⟨s_,bt⟩⟩
  simp[aG.encI,aG.cx] at j5 fU
  simp[eK, *]
theorem aqn:yA Tryz.prog 35 ej bb.Ok:=λfuel cs x h=>by
 obtain⟨n,bl,bD⟩:=El Tryz.underlying35 h
 rw[show Tryz.prog.cellsOf 35=11 from by kernel_rfl] at bl
 match cs,bl with
 | [fp,c1,c2,hG,DM,w6,w7,xT,vn,aqo,aqp],_ =>
  obtain⟨Q8,bK⟩:=bD 0 _ 3 0 1 rfl rfl rfl c6
  obtain⟨a0,j5,s_⟩:=(nB Tryz.underlying3) _ _ _ bK
  obtain⟨Q9,h1⟩:=bD 1 _ 3 1 1 rfl rfl rfl c6
  obtain⟨ib,fU,bt⟩:=(nB Tryz.underlying3) _ _ _ h1
  obtain⟨y2,ah⟩:=bD 2 _ 3 2 1 rfl rfl rfl c6
  obtain⟨a2,je,cD⟩:=(nB Tryz.underlying3) _ _ _ ah
  obtain⟨aqq,aB⟩:=bD 3 _ 3 3 1 rfl rfl rfl c6
  obtain⟨a3,tN,dK⟩:=(nB Tryz.underlying3) _ _ _ aB
  obtain⟨aqr,bH⟩:=bD 4 _ 3 4 1 rfl rfl rfl c6
  obtain⟨a4,EB,hs⟩:=(nB Tryz.underlying3) _ _ _ bH
  obtain⟨at1,c_⟩:=bD 5 _ 9 5 1 rfl rfl rfl c6
  obtain⟨a5,LY,jA⟩:=(Hn Tryz.underlying9) _ _ _ c_
  obtain⟨at2,e1⟩:=bD 6 _ 3 6 1 rfl rfl rfl c6
  obtain⟨DK,LZ,p4⟩:=(nB Tryz.underlying3) _ _ _ e1
  obtain⟨at3,kz⟩:=bD 7 _ 3 7 1 rfl rfl rfl c6
  obtain⟨DL,L0,o3⟩:=(nB Tryz.underlying3) _ _ _ kz
  obtain⟨at4,si⟩:=bD 8 _ 4 8 1 rfl rfl rfl c6
  obtain⟨Gq,aqs,CN⟩:=(abR Tryz.underlying4) _ _ _ si
  obtain⟨at5,uY⟩:=bD 9 _ 33 9 2 rfl rfl rfl c6
  obtain⟨a9,aqt,Q0⟩:=aqm _ _ _ uY
  refine⟨⟨a0,ib,a2,a3,a4,a5,DK,DL,Gq,a9⟩,?_,⟨s_,bt,cD,dK,hs,p4,o3,Q0.cp⟩⟩
  simp[aG.LC,aG.encI,aG.cx,eK] at j5 fU je tN EB LY LZ L0 aqs aqt
  simp[ej, *]
theorem aqu:yA Tryz.prog 71 ru l1.Ok:=λfuel cs x h=>by
 obtain⟨n,bl,bD⟩:=El Tryz.underlying71 h
 rw[show Tryz.prog.cellsOf 71=15 from by kernel_rfl] at bl
 match cs,bl with
 | [fp,c1,c2,hG,DM,w6,w7,xT,vn,aqo,aqp,wF,W6,at6,at7],_ =>
  obtain⟨Q8,bK⟩:=bD 0 _ 3 0 1 rfl rfl rfl c6
  obtain⟨a0,j5,s_⟩:=(nB Tryz.underlying3) _ _ _ bK
  obtain⟨Q9,h1⟩:=bD 1 _ 3 1 1 rfl rfl rfl c6
  obtain⟨ib,fU,bt⟩:=(nB Tryz.underlying3) _ _ _ h1
  obtain⟨y2,ah⟩:=bD 2 _ 3 2 1 rfl rfl rfl c6
  obtain⟨a2,je,cD⟩:=(nB Tryz.underlying3) _ _ _ ah
  obtain⟨aqq,aB⟩:=bD 3 _ 3 3 1 rfl rfl rfl c6
  obtain⟨a3,tN,dK⟩:=(nB Tryz.underlying3) _ _ _ aB
  obtain⟨aqr,bH⟩:=bD 4 _ 35 4 11 rfl rfl rfl c6
  obtain⟨a4,EB,hs⟩:=aqn _ _ _ bH
  refine⟨⟨a0,ib,a2,a3,a4⟩,?_,⟨s_,bt,cD,dK,hs⟩⟩
  simp[aG.encI,ej] at j5 fU je tN EB
  simp[ru, *]
theorem aqv:yA Tryz.prog 110 fZ Key.Ok:=λfuel cs x h=>by
 obtain⟨n,bl,bD⟩:=El Tryz.underlying110 h
 rw[show Tryz.prog.cellsOf 110=2 from by kernel_rfl] at bl
 match cs,bl with
 | [fp,c1],_ =>
  obtain⟨Q8,bK⟩:=bD 0 _ 3 0 1 rfl rfl rfl c6
  obtain⟨a0,j5,s_⟩:=(nB Tryz.underlying3) _ _ _ bK
  obtain⟨Q9,h1⟩:=bD 1 _ 9 1 1 rfl rfl rfl c6
  obtain⟨ib,fU,bt⟩:=(Hn Tryz.underlying9) _ _ _ h1
  refine⟨⟨a0,ib⟩,?_,⟨s_,bt⟩⟩
  simp[aG.encI,aG.cx] at j5 fU
  simp[fZ, *]
theorem own:ownKnob Tryz.prog.godebug=none:=aS
set_option maxRecDepth 100000 in
theorem aqw(H:Type)(enc:TypeId×Value->H)(W:World)(base:Nat)(args:Array Value)(rB gs:List (DataW H))(before:List MemPlace)
 (G8:∀(j:Nat) t v,Tryz.f7.params[j]?=some t->args[j]?=some v->Value.okWide Tryz.prog W .any base t v)
 (n9:DataW.Whole enc Tryz.prog Tryz.f7.params.toList Rows.workerScriptSpec.vars false W args.toList rB gs before) :
 bJ 7 args W λe Ag=>∃v,e=.returned v/\Rows.workerScriptSpec.post enc Tryz.prog Tryz.f7 false true false false W args v Ag:=by
 have LI:=n9;obtain⟨p,q,aqx,Ai,at8,Hr,gG⟩:=n9;have bf:DataW.TrodAll enc Tryz.prog W 0 (λ_=>true) true [26,3,74] args.toList rB p:=aqx;obtain⟨v0,at9,d0,at',ai5,q0,Ee,rfl,rfl,bK,aqy⟩:=trodAll_cons bf;obtain⟨v1,j4,d1,aua,Hb,d_,rfl,rfl,rfl,h1,dW⟩:=trodAll_cons aqy;obtain⟨v2,aub,d2,auc,Lq,q2,rfl,rfl,rfl,ah,Gb⟩:=trodAll_cons dW;obtain⟨rfl,rfl,rfl⟩:=trodAll_nil Gb;obtain rfl:args=#[v0,v1,v2]:=by apply Array.ext';exact Ee
 obtain⟨rfl,rfl⟩:=trodVars_none Ai;obtain⟨aqz,rfl,aaP⟩:=okWide_struct Tryz.underlying26 (G8 0 26 v0 rfl rfl);obtain⟨CL⟩:=aqz;rw[show Tryz.prog.cellsOf 26=12 from by kernel_rfl] at aaP;obtain⟨aud,aqA⟩:=bK;obtain⟨W5,-,uO⟩:=El Tryz.underlying26 aqA
 obtain⟨Q_,Q',Ra,Rb,Rc,Re,Rf,Rg,Rh,Ri,Rj,Rk,rfl⟩:∃Q_ Q' Ra Rb Rc Re Rf Rg Rh Ri Rj Rk,CL=[Q_,Q',Ra,Rb,Rc,Re,Rf,Rg,Rh,Ri,Rj,Rk]:=by
  match CL,aaP with
  | [Q_,Q',Ra,Rb,Rc,Re,Rf,Rg,Rh,Ri,Rj,Rk],_=>exact⟨_,_,_,_,_,_,_,_,_,_,_,_,rfl⟩
 obtain⟨aue,aqB⟩:=uO 0 _ 23 0 1 rfl rfl rfl c6;obtain⟨auf,aqC,aaQ,aqD,aqE⟩:=LD (Hn Tryz.underlying9) Tryz.underlying23 c6 b0 h4 aqB;obtain⟨aug,aqF⟩:=uO 1 _ 24 1 1 rfl rfl rfl c6;obtain⟨auh,aqG,aaR,aqH,aaS⟩:=LD aqv Tryz.underlying24 c6 b0 tO aqF;obtain⟨aui,aqI⟩:=uO 2 _ 3 2 1 rfl rfl rfl c6;obtain⟨aqJ,aaT,aqK⟩:=nB Tryz.underlying3 _ _ _ aqI;obtain⟨auj,aqL⟩:=uO 3 _ 3 3 1 rfl rfl rfl c6;obtain⟨aqM,aaU,aqN⟩:=nB Tryz.underlying3 _ _ _ aqL;obtain⟨auk,aqO⟩:=uO 4 _ 3 4 1 rfl rfl rfl c6;obtain⟨aqP,aaV,aqQ⟩:=nB Tryz.underlying3 _ _ _ aqO;obtain⟨aul,aqR⟩:=uO 5 _ 3 5 1 rfl rfl rfl c6;obtain⟨aqS,aaW,aqT⟩:=nB Tryz.underlying3 _ _ _ aqR;obtain⟨aum,aqU⟩:=uO 6 _ 3 6 1 rfl rfl rfl c6;obtain⟨aqV,aaX,aqW⟩:=nB Tryz.underlying3 _ _ _ aqU;obtain⟨aun,aqX⟩:=uO 7 _ 3 7 1 rfl rfl rfl c6;obtain⟨aqY,aaY,aqZ⟩:=nB Tryz.underlying3 _ _ _ aqX;obtain⟨auo,aq0⟩:=uO 8 _ 3 8 1 rfl rfl rfl c6;obtain⟨aq1,aaZ,aq2⟩:=nB Tryz.underlying3 _ _ _ aq0;obtain⟨aup,aq3⟩:=uO 9 _ 3 9 1 rfl rfl rfl c6;obtain⟨aq4,aa0,aq5⟩:=nB Tryz.underlying3 _ _ _ aq3;obtain⟨auq,aq6⟩:=uO 10 _ 3 10 1 rfl rfl rfl c6;obtain⟨aq7,aa1,aq8⟩:=nB Tryz.underlying3 _ _ _ aq6;obtain⟨aur,aq9⟩:=uO 11 _ 3 11 1 rfl rfl rfl c6;obtain⟨aq_,aa2,aq'⟩:=nB Tryz.underlying3 _ _ _ aq9;simp[Value.cells,aG.encI,cx,LC,iK,eB] at aaQ aaR aaT aaU aaV aaW aaX aaY aaZ aa0 aa1 aa2;subst aaQ aaR aaT aaU aaV aaW aaX aaY aaZ aa0 aa1 aa2;obtain⟨ara,rfl,-,-,ai⟩:=open_int Tryz.underlying3 (G8 1 3 v1 rfl rfl) h1;obtain⟨aus,ss⟩:=ah;obtain⟨arb,aut,arc,JU,pt⟩:=LD aqu Tryz.underlying74 c6 b0 DP ss;obtain⟨ard,are,arf,rfl⟩:=okWide_slice Tryz.underlying74 (G8 2 74 v2 rfl rfl);obtain rfl:Value.slice ard are arf=arb:=by simpa[Value.cells] using arc
 refine(aqi (c:=(⟨aqC,aqG,aqJ,aqM,aqP,aqS,aqV,aqY,aq1,aq4,aq7,aq_⟩:cG)) (ara) aqD aqH ⟨aqK,aqN,aqQ,aqT,aqW,aqZ,aq2,aq5,aq8,aq',aqE,λk hk=>⟨(aaS k hk).len,(aaS k hk).text⟩⟩ (wf_i64 ai) JU (by exact pt)).mono ?_;rintro e auu ⟨v,rfl,⟨cr,rfl,rfl⟩,Ah⟩;exact⟨_,rfl,ab0 (tb:=4) c6 c6 rfl Tryz.underlying4 rfl LI Ah rfl⟩
set_option maxRecDepth 100000 in
theorem lifted(os:Os)(started:os.Started)(H:Type)(enc:TypeId×Value->H):
 ReturnsInHanded {} Tryz.checked os 7 .any (Rows.workerScriptSpec.pre6 enc Tryz.prog Tryz.f7 Rows.workerScriptRow.domain false) (Rows.workerScriptSpec.post enc Tryz.prog Tryz.f7 false true false false):=by
 refine returnsInHanded_of_change (C:=Tryz.checked) (s:=Rows.workerScriptSpec) own started c6 Tryz.func7
  (ChangeSpec.witness6 false ⟨#[],#[.agg #[.slice none 0 0,.slice none 0 0,ad,ad,ad,ad,ad,ad,ad,ad,ad,ad],ad,.slice none 0 0],[]⟩ 8 c6 c6 c6 c6) ?_
 intro W base args rB gs before G8 n9 _ _;exact aqw H enc W base args rB gs before G8 n9
theorem proved:Rows.WorkerScriptSaid:=
 OpenClaim.holds_of_wide 7 Tryz.f7 rfl rfl rfl rfl rfl rfl rfl ⟨rfl,rfl,rfl,rfl,rfl⟩ rfl rfl rfl rfl rfl c6 Tryz.func7 c6
  (of_decide_eq_true c6) (by unfold Func.isWrapper;first|(rw[if_pos (by decide +kernel)];kernel_rfl)|(rw[if_neg (by decide +kernel)];exact⟨rfl,rfl⟩))
  (λos started H enc _=>lifted os started H enc)
end workerScript
end Go.Proofs.YtjideiielmlccaaGreat
