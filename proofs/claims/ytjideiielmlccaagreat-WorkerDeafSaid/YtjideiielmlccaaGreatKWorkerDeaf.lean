/-
  WorkerDeaf: the law returns true for every configuration, number, list of acts and Ask, and its arguments read as before. No condition.
-/
import Derived.Test.YtjideiielmlccaaGreatRows
import Derived.Test.YtjideiielmlccaaGreatSWorkerDeafG
set_option linter.unusedVariables false
set_option linter.unusedSimpArgs false
namespace Go.Proofs.YtjideiielmlccaaGreat
open Go.aH Go.ak Go.ChangeShapes Go.WideShapes Go.ChangeAt Go.RowKit
open Go.ChangeMaps (open_string shut_string)
namespace workerDeaf
theorem arC:yK Tryz.prog 33 eJ b1.Ok:=λfuel cs x h=>by
 obtain⟨n,bj,bB⟩:=EB Tryz.underlying33 h
 rw[show Tryz.prog.cellsOf 33=2 from by kernel_rfl] at bj
 match cs,bj with
 | [fo,c1],_ =>
  obtain⟨RQ,bK⟩:=bB 0 _ 3 0 1 rfl rfl rfl cY
  obtain⟨a0,j7,td⟩:=(nH Tryz.underlying3) _ _ _ bK
  obtain⟨RR,h1⟩:=bB 1 _ 9 1 1 rfl rfl rfl cY
  obtain⟨h9,fS,bC⟩:=(HA Tryz.underlying9) _ _ _ h1
  refine⟨⟨a0,h9⟩,?_,⟨td,bC⟩⟩
  simp[aH.encI,aH.cC] at j7 fS
  simp[eJ, *]
theorem abD:yK Tryz.prog 35 eC bc.Ok:=λfuel cs x h=>by
 obtain⟨n,bj,bB⟩:=EB Tryz.underlying35 h
 rw[show Tryz.prog.cellsOf 35=11 from by kernel_rfl] at bj
 match cs,bj with
 | [fo,c1,c2,hE,DW,w9,w_,xY,vo,arD,arE],_ =>
  obtain⟨RQ,bK⟩:=bB 0 _ 3 0 1 rfl rfl rfl cY
  obtain⟨a0,j7,td⟩:=(nH Tryz.underlying3) _ _ _ bK
  obtain⟨RR,h1⟩:=bB 1 _ 3 1 1 rfl rfl rfl cY
  obtain⟨h9,fS,bC⟩:=(nH Tryz.underlying3) _ _ _ h1
  obtain⟨y2,ah⟩:=bB 2 _ 3 2 1 rfl rfl rfl cY
  obtain⟨a2,jd,cy⟩:=(nH Tryz.underlying3) _ _ _ ah
  obtain⟨arF,aB⟩:=bB 3 _ 3 3 1 rfl rfl rfl cY
  obtain⟨a3,tP,dE⟩:=(nH Tryz.underlying3) _ _ _ aB
  obtain⟨arG,bE⟩:=bB 4 _ 3 4 1 rfl rfl rfl cY
  obtain⟨a4,ES,hg⟩:=(nH Tryz.underlying3) _ _ _ bE
  obtain⟨auL,c6⟩:=bB 5 _ 9 5 1 rfl rfl rfl cY
  obtain⟨a5,Ma,jw⟩:=(HA Tryz.underlying9) _ _ _ c6
  obtain⟨auM,eZ⟩:=bB 6 _ 3 6 1 rfl rfl rfl cY
  obtain⟨DU,Mb,p9⟩:=(nH Tryz.underlying3) _ _ _ eZ
  obtain⟨auN,kB⟩:=bB 7 _ 3 7 1 rfl rfl rfl cY
  obtain⟨DV,Mc,pb⟩:=(nH Tryz.underlying3) _ _ _ kB
  obtain⟨auO,sn⟩:=bB 8 _ 4 8 1 rfl rfl rfl cY
  obtain⟨GH,arH,CY⟩:=(acL Tryz.underlying4) _ _ _ sn
  obtain⟨auP,uZ⟩:=bB 9 _ 33 9 2 rfl rfl rfl cY
  obtain⟨a9,arI,Q'⟩:=arC _ _ _ uZ
  refine⟨⟨a0,h9,a2,a3,a4,a5,DU,DV,GH,a9⟩,?_,⟨td,bC,cy,dE,hg,p9,pb,Q'.ck⟩⟩
  simp[aH.LQ,aH.encI,aH.cC,eJ] at j7 fS jd tP ES Ma Mb Mc arH arI
  simp[eC, *]
theorem arJ:yK Tryz.prog 71 qO k7.Ok:=λfuel cs x h=>by
 obtain⟨n,bj,bB⟩:=EB Tryz.underlying71 h
 rw[show Tryz.prog.cellsOf 71=15 from by kernel_rfl] at bj
 match cs,bj with
 | [fo,c1,c2,hE,DW,w9,w_,xY,vo,arD,arE,vp,XK,auQ,auR],_ =>
  obtain⟨RQ,bK⟩:=bB 0 _ 3 0 1 rfl rfl rfl cY
  obtain⟨a0,j7,td⟩:=(nH Tryz.underlying3) _ _ _ bK
  obtain⟨RR,h1⟩:=bB 1 _ 3 1 1 rfl rfl rfl cY
  obtain⟨h9,fS,bC⟩:=(nH Tryz.underlying3) _ _ _ h1
  obtain⟨y2,ah⟩:=bB 2 _ 3 2 1 rfl rfl rfl cY
  obtain⟨a2,jd,cy⟩:=(nH Tryz.underlying3) _ _ _ ah
  obtain⟨arF,aB⟩:=bB 3 _ 3 3 1 rfl rfl rfl cY
  obtain⟨a3,tP,dE⟩:=(nH Tryz.underlying3) _ _ _ aB
  obtain⟨arG,bE⟩:=bB 4 _ 35 4 11 rfl rfl rfl cY
  obtain⟨a4,ES,hg⟩:=abD _ _ _ bE
  refine⟨⟨a0,h9,a2,a3,a4⟩,?_,⟨td,bC,cy,dE,hg⟩⟩
  simp[aH.encI,eC] at j7 fS jd tP ES
  simp[qO, *]
theorem arK:yK Tryz.prog 110 fY Key.Ok:=λfuel cs x h=>by
 obtain⟨n,bj,bB⟩:=EB Tryz.underlying110 h
 rw[show Tryz.prog.cellsOf 110=2 from by kernel_rfl] at bj
 match cs,bj with
 | [fo,c1],_ =>
  obtain⟨RQ,bK⟩:=bB 0 _ 3 0 1 rfl rfl rfl cY
  obtain⟨a0,j7,td⟩:=(nH Tryz.underlying3) _ _ _ bK
  obtain⟨RR,h1⟩:=bB 1 _ 9 1 1 rfl rfl rfl cY
  obtain⟨h9,fS,bC⟩:=(HA Tryz.underlying9) _ _ _ h1
  refine⟨⟨a0,h9⟩,?_,⟨td,bC⟩⟩
  simp[aH.encI,aH.cC] at j7 fS
  simp[fY, *]
theorem own:ownKnob Tryz.prog.godebug=none:=aQ
set_option maxRecDepth 100000 in
theorem arL(H:Type)(enc:TypeId×Value->H)(W:World)(base:Nat)(args:Array Value)(rH gs:List (DataW H))(before:List MemPlace)
 (El:∀(j:Nat) t v,Tryz.f8.params[j]?=some t->args[j]?=some v->Value.okWide Tryz.prog W .any base t v)
 (oc:DataW.Whole enc Tryz.prog Tryz.f8.params.toList Rows.workerDeafSpec.vars false W args.toList rH gs before) :
 bI 8 args W λe Av=>∃v,e=.returned v/\Rows.workerDeafSpec.post enc Tryz.prog Tryz.f8 false true false false W args v Av:=by
 have LW:=oc;obtain⟨p,q,arM,Ax,auS,HE,gI⟩:=oc;have bf:DataW.TrodAll enc Tryz.prog W 0 (λ_=>true) true [26,3,74,35] args.toList rH p:=arM;obtain⟨v0,auT,d0,auU,ajY,q0,Eu,rfl,rfl,bK,arN⟩:=trodAll_cons bf;obtain⟨v1,j6,d1,auV,Hs,eb,rfl,rfl,rfl,h1,dX⟩:=trodAll_cons arN;obtain⟨v2,auW,d2,auX,LB,q2,rfl,rfl,rfl,ah,Gq⟩:=trodAll_cons dX;obtain⟨v3,auY,d3,auZ,Er,fx,rfl,rfl,rfl,aB,Gr⟩:=trodAll_cons Gq;obtain⟨rfl,rfl,rfl⟩:=trodAll_nil Gr;obtain rfl:args=#[v0,v1,v2,v3]:=by apply Array.ext';exact Eu
 obtain⟨rfl,rfl⟩:=trodVars_none Ax;obtain⟨arO,rfl,abE⟩:=okWide_struct Tryz.underlying26 (El 0 26 v0 rfl rfl);obtain⟨CW⟩:=arO;rw[show Tryz.prog.cellsOf 26=12 from by kernel_rfl] at abE;obtain⟨au0,arP⟩:=bK;obtain⟨XJ,-,uP⟩:=EB Tryz.underlying26 arP
 obtain⟨RS,RT,RU,RV,RW,RX,RY,RZ,R0,R1,R2,R3,rfl⟩:∃RS RT RU RV RW RX RY RZ R0 R1 R2 R3,CW=[RS,RT,RU,RV,RW,RX,RY,RZ,R0,R1,R2,R3]:=by
  match CW,abE with
  | [RS,RT,RU,RV,RW,RX,RY,RZ,R0,R1,R2,R3],_=>exact⟨_,_,_,_,_,_,_,_,_,_,_,_,rfl⟩
 obtain⟨au1,arQ⟩:=uP 0 _ 23 0 1 rfl rfl rfl cY;obtain⟨au2,arR,abF,arS,arT⟩:=LR (HA Tryz.underlying9) Tryz.underlying23 cY b2 iE arQ;obtain⟨au3,arU⟩:=uP 1 _ 24 1 1 rfl rfl rfl cY;obtain⟨au4,arV,abG,arW,abH⟩:=LR arK Tryz.underlying24 cY b2 tQ arU;obtain⟨au5,arX⟩:=uP 2 _ 3 2 1 rfl rfl rfl cY;obtain⟨arY,abI,arZ⟩:=nH Tryz.underlying3 _ _ _ arX;obtain⟨au6,ar0⟩:=uP 3 _ 3 3 1 rfl rfl rfl cY;obtain⟨ar1,abJ,ar2⟩:=nH Tryz.underlying3 _ _ _ ar0;obtain⟨au7,ar3⟩:=uP 4 _ 3 4 1 rfl rfl rfl cY;obtain⟨ar4,abK,ar5⟩:=nH Tryz.underlying3 _ _ _ ar3;obtain⟨au8,ar6⟩:=uP 5 _ 3 5 1 rfl rfl rfl cY;obtain⟨ar7,abL,ar8⟩:=nH Tryz.underlying3 _ _ _ ar6;obtain⟨au9,ar9⟩:=uP 6 _ 3 6 1 rfl rfl rfl cY;obtain⟨ar_,abM,ar'⟩:=nH Tryz.underlying3 _ _ _ ar9;obtain⟨au_,asa⟩:=uP 7 _ 3 7 1 rfl rfl rfl cY;obtain⟨asb,abN,asc⟩:=nH Tryz.underlying3 _ _ _ asa;obtain⟨au',asd⟩:=uP 8 _ 3 8 1 rfl rfl rfl cY;obtain⟨ase,abO,asf⟩:=nH Tryz.underlying3 _ _ _ asd;obtain⟨ava,asg⟩:=uP 9 _ 3 9 1 rfl rfl rfl cY;obtain⟨ash,abP,asi⟩:=nH Tryz.underlying3 _ _ _ asg;obtain⟨avb,asj⟩:=uP 10 _ 3 10 1 rfl rfl rfl cY;obtain⟨asl,abQ,asm⟩:=nH Tryz.underlying3 _ _ _ asj;obtain⟨avc,asn⟩:=uP 11 _ 3 11 1 rfl rfl rfl cY;obtain⟨aso,abR,asp⟩:=nH Tryz.underlying3 _ _ _ asn;simp[Value.cells,aH.encI,cC,LQ,iO,eA] at abF abG abI abJ abK abL abM abN abO abP abQ abR;subst abF abG abI abJ abK abL abM abN abO abP abQ abR;obtain⟨asq,rfl,-,-,ai⟩:=open_int Tryz.underlying3 (El 1 3 v1 rfl rfl) h1;obtain⟨avd,sy⟩:=ah;obtain⟨asr,ave,ass,J8,oK⟩:=LR arJ Tryz.underlying74 cY b2 KI sy;obtain⟨ast,asu,asv,rfl⟩:=okWide_slice Tryz.underlying74 (El 2 74 v2 rfl rfl);obtain rfl:Value.slice ast asu asv=asr:=by simpa[Value.cells] using ass
 obtain⟨asw,rfl,avf⟩:=okWide_struct Tryz.underlying35 (El 3 35 v3 rfl rfl);obtain⟨A4⟩:=asw;obtain⟨avg,KB⟩:=aB;obtain⟨abS,asx,Bt⟩:=abD _ _ _ KB;obtain rfl:A4=eC abS:=asx;refine(aqM (c:=(⟨arR,arV,arY,ar1,ar4,ar7,ar_,asb,ase,ash,asl,aso⟩:cD)) (a:=abS) (asq) arS arW ⟨arZ,ar2,ar5,ar8,ar',asc,asf,asi,asm,asp,arT,λk hk=>⟨(abH k hk).len,(abH k hk).text⟩⟩ (wf_i64 ai) J8 Bt (by exact oK)).mono ?_;rintro e avh ⟨v,rfl,⟨cu,rfl,rfl⟩,Aw⟩;exact⟨_,rfl,acU (tb:=4) cY cY rfl Tryz.underlying4 rfl LW Aw rfl⟩
set_option maxRecDepth 100000 in
theorem lifted(os:Os)(started:os.Started)(H:Type)(enc:TypeId×Value->H):
 ReturnsInHanded {} Tryz.checked os 8 .any (Rows.workerDeafSpec.pre6 enc Tryz.prog Tryz.f8 Rows.workerDeafRow.domain false) (Rows.workerDeafSpec.post enc Tryz.prog Tryz.f8 false true false false):=by
 refine returnsInHanded_of_change (C:=Tryz.checked) (s:=Rows.workerDeafSpec) own started cY Tryz.func8
  (ChangeSpec.witness6 false ⟨#[],#[.agg #[.slice none 0 0,.slice none 0 0,ad,ad,ad,ad,ad,ad,ad,ad,ad,ad],ad,.slice none 0 0,.agg #[ad,ad,ad,ad,ad,.string (ByteArray.mk #[]),ad,ad,.bool false,ad,.string (ByteArray.mk #[])]],[]⟩ 8 cY cY cY cY) ?_
 intro W base args rH gs before El oc _ _;exact arL H enc W base args rH gs before El oc
theorem proved:Rows.WorkerDeafSaid:=
 OpenClaim.holds_of_wide 8 Tryz.f8 rfl rfl rfl rfl rfl rfl rfl ⟨rfl,rfl,rfl,rfl,rfl⟩ rfl rfl rfl rfl rfl cY Tryz.func8 cY
  (of_decide_eq_true cY) (by unfold Func.isWrapper;first|(rw[if_pos (by decide +kernel)];kernel_rfl)|(rw[if_neg (by decide +kernel)];exact⟨rfl,rfl⟩))
  (λos started H enc _=>lifted os started H enc)
end workerDeaf
end Go.Proofs.YtjideiielmlccaaGreat
