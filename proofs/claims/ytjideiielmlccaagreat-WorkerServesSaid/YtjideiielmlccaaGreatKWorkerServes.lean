import Derived.Test.YtjideiielmlccaaGreatRows
import Derived.Test.YtjideiielmlccaaGreatSWorkerServesG
set_option linter.unusedVariables false
set_option linter.unusedSimpArgs false
namespace Go.Proofs.YtjideiielmlccaaGreat
open Go.aF Go.ak Go.ChangeShapes Go.WideShapes Go.ChangeAt Go.RowKit
open Go.ChangeMaps (open_string shut_string)
namespace workerServes
theorem aqT:yI Tryz.prog 33 eJ b6.Ok:=λfuel cs x h=>by
 obtain⟨n,bk,bC⟩:=Ep Tryz.underlying33 h
 rw[show Tryz.prog.cellsOf 33=2 from by kernel_rfl] at bk
 match cs,bk with
 | [fp,c1],_=>
  obtain⟨Rn,bH⟩:=bC 0 _ 3 0 1 rfl rfl rfl c0;obtain⟨a0,j_,tj⟩:=nK Tryz.underlying3 _ _ _ bH;obtain⟨Ro,h1⟩:=bC 1 _ 9 1 1 rfl rfl rfl c0;obtain⟨h9,fV,bF⟩:=Hv Tryz.underlying9 _ _ _ h1
  refine⟨⟨a0,h9⟩,?_,⟨tj,bF⟩⟩
  simp[aF.encI,aF.cz] at j_ fV
  simp[eJ, *]
theorem aqU:yI Tryz.prog 35 eO bf.Ok:=λfuel cs x h=>by
 obtain⟨n,bk,bC⟩:=Ep Tryz.underlying35 h
 rw[show Tryz.prog.cellsOf 35=11 from by kernel_rfl] at bk
 match cs,bk with
 | [fp,c1,c2,hG,DP,w9,w_,xZ,vu,aqV,aqW],_=>
  obtain⟨Rn,bH⟩:=bC 0 _ 3 0 1 rfl rfl rfl c0;obtain⟨a0,j_,tj⟩:=nK Tryz.underlying3 _ _ _ bH;obtain⟨Ro,h1⟩:=bC 1 _ 3 1 1 rfl rfl rfl c0;obtain⟨h9,fV,bF⟩:=nK Tryz.underlying3 _ _ _ h1;obtain⟨y2,ag⟩:=bC 2 _ 3 2 1 rfl rfl rfl c0;obtain⟨a2,je,cB⟩:=nK Tryz.underlying3 _ _ _ ag;obtain⟨aqX,aB⟩:=bC 3 _ 3 3 1 rfl rfl rfl c0;obtain⟨a3,tY,dG⟩:=nK Tryz.underlying3 _ _ _ aB;obtain⟨aqY,bE⟩:=bC 4 _ 3 4 1 rfl rfl rfl c0;obtain⟨a4,EI,g'⟩:=nK Tryz.underlying3 _ _ _ bE;obtain⟨auG,c3⟩:=bC 5 _ 9 5 1 rfl rfl rfl c0;obtain⟨a5,L7,i7⟩:=Hv Tryz.underlying9 _ _ _ c3;obtain⟨auH,eX⟩:=bC 6 _ 3 6 1 rfl rfl rfl c0;obtain⟨DN,L8,pa⟩:=nK Tryz.underlying3 _ _ _ eX;obtain⟨auI,kC⟩:=bC 7 _ 3 7 1 rfl rfl rfl c0;obtain⟨DO,L9,oi⟩:=nK Tryz.underlying3 _ _ _ kC;obtain⟨auJ,su⟩:=bC 8 _ 4 8 1 rfl rfl rfl c0;obtain⟨GC,aqZ,y9⟩:=acq Tryz.underlying4 _ _ _ su;obtain⟨auK,u4⟩:=bC 9 _ 33 9 2 rfl rfl rfl c0;obtain⟨a9,aq0,Le⟩:=aqT _ _ _ u4
  refine⟨⟨a0,h9,a2,a3,a4,a5,DN,DO,GC,a9⟩,?_,⟨tj,bF,cB,dG,g',pa,oi,Le.cq⟩⟩
  simp[aF.LL,aF.encI,aF.cz,eJ] at j_ fV je tY EI L7 L8 L9 aqZ aq0
  simp[eO, *]
theorem aq1:yI Tryz.prog 71 qM k_.Ok:=λfuel cs x h=>by
 obtain⟨n,bk,bC⟩:=Ep Tryz.underlying71 h
 rw[show Tryz.prog.cellsOf 71=15 from by kernel_rfl] at bk
 match cs,bk with
 | [fp,c1,c2,hG,DP,w9,w_,xZ,vu,aqV,aqW,wI,Xj,auL,auM],_=>
  obtain⟨Rn,bH⟩:=bC 0 _ 3 0 1 rfl rfl rfl c0;obtain⟨a0,j_,tj⟩:=nK Tryz.underlying3 _ _ _ bH;obtain⟨Ro,h1⟩:=bC 1 _ 3 1 1 rfl rfl rfl c0;obtain⟨h9,fV,bF⟩:=nK Tryz.underlying3 _ _ _ h1;obtain⟨y2,ag⟩:=bC 2 _ 3 2 1 rfl rfl rfl c0;obtain⟨a2,je,cB⟩:=nK Tryz.underlying3 _ _ _ ag;obtain⟨aqX,aB⟩:=bC 3 _ 3 3 1 rfl rfl rfl c0;obtain⟨a3,tY,dG⟩:=nK Tryz.underlying3 _ _ _ aB;obtain⟨aqY,bE⟩:=bC 4 _ 35 4 11 rfl rfl rfl c0;obtain⟨a4,EI,g'⟩:=aqU _ _ _ bE
  refine⟨⟨a0,h9,a2,a3,a4⟩,?_,⟨tj,bF,cB,dG,g'⟩⟩
  simp[aF.encI,eO] at j_ fV je tY EI
  simp[qM, *]
theorem aq2:yI Tryz.prog 110 f_ Key.Ok:=λfuel cs x h=>by
 obtain⟨n,bk,bC⟩:=Ep Tryz.underlying110 h
 rw[show Tryz.prog.cellsOf 110=2 from by kernel_rfl] at bk
 match cs,bk with
 | [fp,c1],_=>
  obtain⟨Rn,bH⟩:=bC 0 _ 3 0 1 rfl rfl rfl c0;obtain⟨a0,j_,tj⟩:=nK Tryz.underlying3 _ _ _ bH;obtain⟨Ro,h1⟩:=bC 1 _ 9 1 1 rfl rfl rfl c0;obtain⟨h9,fV,bF⟩:=Hv Tryz.underlying9 _ _ _ h1
  refine⟨⟨a0,h9⟩,?_,⟨tj,bF⟩⟩
  simp[aF.encI,aF.cz] at j_ fV
  simp[f_, *]
theorem own:ownKnob Tryz.prog.godebug=none:=aQ
set_option maxRecDepth 100000 in
theorem aq3(H:Type)(enc:TypeId×Value->H)(W:World)(base:Nat)(args:Array Value)(rK gs:List (DataW H))(before:List MemPlace)
 (He:∀(j:Nat) t v,Tryz.f9.params[j]?=some t->args[j]?=some v->Value.okWide Tryz.prog W .any base t v)
 (ob:DataW.Whole enc Tryz.prog Tryz.f9.params.toList Rows.workerServesSpec.vars false W args.toList rK gs before) :
 bG 9 args W λe Ar=>∃v,e=.returned v/\Rows.workerServesSpec.post enc Tryz.prog Tryz.f9 false true false false W args v Ar:=by
 have LQ:=ob;obtain⟨p,q,aq4,Au,auN,Hz,gK⟩:=ob;have bg:DataW.TrodAll enc Tryz.prog W 0 (λ_=>true) true [26,3,74] args.toList rK p:=aq4;obtain⟨v0,auO,d0,auP,ajC,q0,Ei,rfl,rfl,bH,aq5⟩:=trodAll_cons bg;obtain⟨v1,jy,d1,auQ,Hj,d',rfl,rfl,rfl,h1,dX⟩:=trodAll_cons aq5;obtain⟨v2,auR,d2,auS,Ly,q2,rfl,rfl,rfl,ag,Gj⟩:=trodAll_cons dX;obtain⟨rfl,rfl,rfl⟩:=trodAll_nil Gj;obtain rfl:args=#[v0,v1,v2]:=by apply Array.ext';exact Ei
 obtain⟨rfl,rfl⟩:=trodVars_none Au;obtain⟨aq6,rfl,abm⟩:=okWide_struct Tryz.underlying26 (He 0 26 v0 rfl rfl);obtain⟨CQ⟩:=aq6;rw[show Tryz.prog.cellsOf 26=12 from by kernel_rfl] at abm;obtain⟨auT,aq7⟩:=bH;obtain⟨Xi,-,uU⟩:=Ep Tryz.underlying26 aq7
 obtain⟨Rp,Rq,Rr,Rs,Rt,Ru,Rv,Rw,Rx,Ry,Rz,RA,rfl⟩:∃Rp Rq Rr Rs Rt Ru Rv Rw Rx Ry Rz RA,CQ=[Rp,Rq,Rr,Rs,Rt,Ru,Rv,Rw,Rx,Ry,Rz,RA]:=by
  match CQ,abm with
  |[Rp,Rq,Rr,Rs,Rt,Ru,Rv,Rw,Rx,Ry,Rz,RA],_=>exact⟨_,_,_,_,_,_,_,_,_,_,_,_,rfl⟩
 obtain⟨auU,aq8⟩:=uU 0 _ 23 0 1 rfl rfl rfl c0;obtain⟨auV,aq9,abn,aq_,aq'⟩:=LM (Hv Tryz.underlying9) Tryz.underlying23 c0 b5 ic aq8;obtain⟨auW,ara⟩:=uU 1 _ 24 1 1 rfl rfl rfl c0;obtain⟨auX,arb,abo,arc,abp⟩:=LM aq2 Tryz.underlying24 c0 b5 tZ ara;obtain⟨auY,ard⟩:=uU 2 _ 3 2 1 rfl rfl rfl c0;obtain⟨are,abq,arf⟩:=nK Tryz.underlying3 _ _ _ ard;obtain⟨auZ,arh⟩:=uU 3 _ 3 3 1 rfl rfl rfl c0;obtain⟨ari,abr,arj⟩:=nK Tryz.underlying3 _ _ _ arh;obtain⟨au0,ark⟩:=uU 4 _ 3 4 1 rfl rfl rfl c0;obtain⟨arl,abt,arn⟩:=nK Tryz.underlying3 _ _ _ ark;obtain⟨au1,aro⟩:=uU 5 _ 3 5 1 rfl rfl rfl c0;obtain⟨arp,abu,arq⟩:=nK Tryz.underlying3 _ _ _ aro;obtain⟨au2,ars⟩:=uU 6 _ 3 6 1 rfl rfl rfl c0;obtain⟨art,abv,aru⟩:=nK Tryz.underlying3 _ _ _ ars;obtain⟨au3,arv⟩:=uU 7 _ 3 7 1 rfl rfl rfl c0;obtain⟨arw,abw,arx⟩:=nK Tryz.underlying3 _ _ _ arv;obtain⟨au4,ary⟩:=uU 8 _ 3 8 1 rfl rfl rfl c0;obtain⟨arz,abx,arA⟩:=nK Tryz.underlying3 _ _ _ ary;obtain⟨au5,arB⟩:=uU 9 _ 3 9 1 rfl rfl rfl c0;obtain⟨arC,aby,arD⟩:=nK Tryz.underlying3 _ _ _ arB;obtain⟨au6,arE⟩:=uU 10 _ 3 10 1 rfl rfl rfl c0;obtain⟨arF,abz,arG⟩:=nK Tryz.underlying3 _ _ _ arE;obtain⟨au7,arH⟩:=uU 11 _ 3 11 1 rfl rfl rfl c0;obtain⟨arI,abA,arJ⟩:=nK Tryz.underlying3 _ _ _ arH;simp[Value.cells,aF.encI,cz,LL,iM,en] at abn abo abq abr abt abu abv abw abx aby abz abA;subst abn abo abq abr abt abu abv abw abx aby abz abA;obtain⟨arK,rfl,-,-,ai⟩:=open_int Tryz.underlying3 (He 1 3 v1 rfl rfl) h1;obtain⟨au8,sF⟩:=ag;obtain⟨arL,au9,arM,J2,pB⟩:=LM aq1 Tryz.underlying74 c0 b5 KA sF;obtain⟨arN,arO,arP,rfl⟩:=okWide_slice Tryz.underlying74 (He 2 74 v2 rfl rfl);obtain rfl:Value.slice arN arO arP=arL:=by simpa[Value.cells] using arM
 refine(aqy (c:=(⟨aq9,arb,are,ari,arl,arp,art,arw,arz,arC,arF,arI⟩:cE)) (arK) aq_ arc ⟨arf,arj,arn,arq,aru,arx,arA,arD,arG,arJ,aq',λk hk=>⟨(abp k hk).len,(abp k hk).text⟩⟩ (wf_i64 ai) J2 (by exact pB)).mono ?_;rintro e au_ ⟨v,rfl,⟨cv,rfl,rfl⟩,As⟩;exact⟨_,rfl,acA (tb:=4) c0 c0 rfl Tryz.underlying4 rfl LQ As rfl⟩
set_option maxRecDepth 100000 in
theorem lifted(os:Os)(started:os.Started)(H:Type)(enc:TypeId×Value->H):
 ReturnsInHanded {} Tryz.checked os 9 .any (Rows.workerServesSpec.pre6 enc Tryz.prog Tryz.f9 Rows.workerServesRow.domain false) (Rows.workerServesSpec.post enc Tryz.prog Tryz.f9 false true false false):=by
 refine returnsInHanded_of_change (C:=Tryz.checked) (s:=Rows.workerServesSpec) own started c0 Tryz.func9
  (ChangeSpec.witness6 false ⟨#[],#[.agg #[.slice none 0 0,.slice none 0 0,ad,ad,ad,ad,ad,ad,ad,ad,ad,ad],ad,.slice none 0 0],[]⟩ 8 c0 c0 c0 c0) ?_
 intro W base args rK gs before He ob _ _;exact aq3 H enc W base args rK gs before He ob
theorem proved:Rows.WorkerServesSaid:=
 OpenClaim.holds_of_wide 9 Tryz.f9 rfl rfl rfl rfl rfl rfl rfl ⟨rfl,rfl,rfl,rfl,rfl⟩ rfl rfl rfl rfl rfl c0 Tryz.func9 c0
  (of_decide_eq_true c0) (by unfold Func.isWrapper;first|(rw[if_pos (by decide +kernel)];kernel_rfl)|(rw[if_neg (by decide +kernel)];exact⟨rfl,rfl⟩))
  (λos started H enc _=>lifted os started H enc)
end workerServes
end Go.Proofs.YtjideiielmlccaaGreat
