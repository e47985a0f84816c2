/-
  WorkerRots: the law returns true for every configuration, number, list of numbers and Ask, and its arguments read as before. No condition.
-/
import Derived.Test.YtjideiielmlccaaGreatRows
import Derived.Test.YtjideiielmlccaaGreatSWorkerRotsG
set_option linter.unusedVariables false
set_option linter.unusedSimpArgs false
namespace Go.Proofs.YtjideiielmlccaaGreat
open Go.aA Go.ab Go.ChangeShapes Go.WideShapes Go.ChangeAt Go.RowKit
open Go.ChangeMaps (open_string shut_string)
namespace workerRots
theorem ajo:yX Tryz.prog 33 hK dk.Ok:=fun fuel cs x h=>by
 obtain ⟨n,a',bd⟩:=Fm Tryz.underlying33 h
 rw [show Tryz.prog.cellsOf 33=2 from by kernel_rfl] at a'
 match cs,a' with
 | [eV,c1],_ =>
  obtain ⟨WK,a8⟩:=bd 0 _ 3 0 1 rfl rfl rfl (by kernel_rfl)
  obtain ⟨a0,i7,tG⟩:=(nm Tryz.underlying3) _ _ _ a8
  obtain ⟨WL,h1⟩:=bd 1 _ 9 1 1 rfl rfl rfl (by kernel_rfl)
  obtain ⟨hi,fw,bw⟩:=(Fl Tryz.underlying9) _ _ _ h1
  refine ⟨⟨a0,hi⟩,?_,⟨tG,bw⟩⟩
  simp [aA.encI,aA.cp] at i7 fw
  simp [hK, *]
theorem ajp:yX Tryz.prog 35 k5 bI.Ok:=fun fuel cs x h=>by
 obtain ⟨n,a',bd⟩:=Fm Tryz.underlying35 h
 rw [show Tryz.prog.cellsOf 35=11 from by kernel_rfl] at a'
 match cs,a' with
 | [eV,c1,c2,kZ,My,Ag,Ah,agQ,ama,amb,amc],_ =>
  obtain ⟨WK,a8⟩:=bd 0 _ 3 0 1 rfl rfl rfl (by kernel_rfl)
  obtain ⟨a0,i7,tG⟩:=(nm Tryz.underlying3) _ _ _ a8
  obtain ⟨WL,h1⟩:=bd 1 _ 3 1 1 rfl rfl rfl (by kernel_rfl)
  obtain ⟨hi,fw,bw⟩:=(nm Tryz.underlying3) _ _ _ h1
  obtain ⟨y2,aa⟩:=bd 2 _ 3 2 1 rfl rfl rfl (by kernel_rfl)
  obtain ⟨a2,jh,cB⟩:=(nm Tryz.underlying3) _ _ _ aa
  obtain ⟨amd,aq⟩:=bd 3 _ 3 3 1 rfl rfl rfl (by kernel_rfl)
  obtain ⟨a3,uU,d_⟩:=(nm Tryz.underlying3) _ _ _ aq
  obtain ⟨ame,a6⟩:=bd 4 _ 3 4 1 rfl rfl rfl (by kernel_rfl)
  obtain ⟨a4,Jq,hS⟩:=(nm Tryz.underlying3) _ _ _ a6
  obtain ⟨amf,bT⟩:=bd 5 _ 9 5 1 rfl rfl rfl (by kernel_rfl)
  obtain ⟨a5,Jr,ih⟩:=(Fl Tryz.underlying9) _ _ _ bT
  obtain ⟨amg,ed⟩:=bd 6 _ 3 6 1 rfl rfl rfl (by kernel_rfl)
  obtain ⟨B8,Js,nV⟩:=(nm Tryz.underlying3) _ _ _ ed
  obtain ⟨amh,jH⟩:=bd 7 _ 3 7 1 rfl rfl rfl (by kernel_rfl)
  obtain ⟨B9,Jt,mO⟩:=(nm Tryz.underlying3) _ _ _ jH
  obtain ⟨ami,qR⟩:=bd 8 _ 4 8 1 rfl rfl rfl (by kernel_rfl)
  obtain ⟨Ez,ajq,Bi⟩:=(XI Tryz.underlying4) _ _ _ qR
  obtain ⟨amj,tx⟩:=bd 9 _ 33 9 2 rfl rfl rfl (by kernel_rfl)
  obtain ⟨a9,ajr,NR⟩:=ajo _ _ _ tx
  refine ⟨⟨a0,hi,a2,a3,a4,a5,B8,B9,Ez,a9⟩,?_,⟨tG,bw,cB,d_,hS,nV,mO,NR.cd⟩⟩
  simp [aA.I9,aA.encI,aA.cp,hK] at i7 fw jh uU Jq Jr Js Jt ajq ajr
  simp [k5, *]
theorem ajs:yX Tryz.prog 110 g' Key.Ok:=fun fuel cs x h=>by
 obtain ⟨n,a',bd⟩:=Fm Tryz.underlying110 h
 rw [show Tryz.prog.cellsOf 110=2 from by kernel_rfl] at a'
 match cs,a' with
 | [eV,c1],_ =>
  obtain ⟨WK,a8⟩:=bd 0 _ 3 0 1 rfl rfl rfl (by kernel_rfl)
  obtain ⟨a0,i7,tG⟩:=(nm Tryz.underlying3) _ _ _ a8
  obtain ⟨WL,h1⟩:=bd 1 _ 9 1 1 rfl rfl rfl (by kernel_rfl)
  obtain ⟨hi,fw,bw⟩:=(Fl Tryz.underlying9) _ _ _ h1
  refine ⟨⟨a0,hi⟩,?_,⟨tG,bw⟩⟩
  simp [aA.encI,aA.cp] at i7 fw
  simp [g', *]
theorem own:ownKnob Tryz.prog.godebug=none:=by kernel_rfl
set_option maxRecDepth 100000 in
theorem ajt (H:Type) (enc:TypeId×Value→H) (W:World) (base:Nat) (args:Array Value) (p4 gs:List (DataW H)) (before:List MemPlace)
 (Cm:∀ (j:Nat) t v,Tryz.f5.params[j]?=some t→args[j]?=some v→Value.okWide Tryz.prog W .any base t v)
 (po:DataW.Whole enc Tryz.prog Tryz.f5.params.toList Rows.workerRotsSpec.vars false W args.toList p4 gs before) :
 Calls Tryz.prog 5 args W fun e yY=>∃ v,e=.returned v∧Rows.workerRotsSpec.post enc Tryz.prog Tryz.f5 false true false false W args v yY:=by
 have Jc:=po;obtain ⟨p,q,UE,y0,amk,XR,kr⟩:=po;have bg:DataW.TrodAll enc Tryz.prog W 0 (fun _=>true) true [26,3,57,35] args.toList p4 p:=UE;obtain ⟨v0,aml,d0,amm,aeJ,q0,Ct,rfl,rfl,a8,aju⟩:=trodAll_cons bg;obtain ⟨v1,oS,d1,amn,xe,ea,rfl,rfl,rfl,h1,df⟩:=trodAll_cons aju;obtain ⟨v2,amo,d2,amp,AG,q2,rfl,rfl,rfl,aa,El⟩:=trodAll_cons df;obtain ⟨v3,amq,d3,amr,uO,fb,rfl,rfl,rfl,aq,Em⟩:=trodAll_cons El;obtain ⟨rfl,rfl,rfl⟩:=trodAll_nil Em;obtain rfl:args=#[v0,v1,v2,v3]:=by apply Array.ext'; exact Ct
 obtain ⟨rfl,rfl⟩:=trodVars_none y0;obtain ⟨ajv,rfl,WM⟩:=okWide_struct Tryz.underlying26 (Cm 0 26 v0 rfl rfl);obtain ⟨Bg⟩:=ajv;rw [show Tryz.prog.cellsOf 26=12 from by kernel_rfl] at WM;obtain ⟨ams,ajw⟩:=a8;obtain ⟨Tq,-,tj⟩:=Fm Tryz.underlying26 ajw
 obtain ⟨N2,N3,N4,N5,N6,N7,N8,N9,N_,N',Oa,Ob,rfl⟩:∃ N2 N3 N4 N5 N6 N7 N8 N9 N_ N' Oa Ob,Bg=[N2,N3,N4,N5,N6,N7,N8,N9,N_,N',Oa,Ob]:=by
  match Bg,WM with
  | [N2,N3,N4,N5,N6,N7,N8,N9,N_,N',Oa,Ob],_=>exact ⟨_,_,_,_,_,_,_,_,_,_,_,_,rfl⟩
 obtain ⟨amt,ajx⟩:=tj 0 _ 23 0 1 rfl rfl rfl (by kernel_rfl);obtain ⟨amu,ajy,WN,ajz,ajA⟩:=I_ (Fl Tryz.underlying9) Tryz.underlying23 (by kernel_rfl) (by decide) hr ajx;obtain ⟨amv,ajB⟩:=tj 1 _ 24 1 1 rfl rfl rfl (by kernel_rfl);obtain ⟨amw,ajC,WO,ajD,WQ⟩:=I_ ajs Tryz.underlying24 (by kernel_rfl) (by decide) sv ajB;obtain ⟨amx,ajE⟩:=tj 2 _ 3 2 1 rfl rfl rfl (by kernel_rfl);obtain ⟨ajF,WR,ajG⟩:=nm Tryz.underlying3 _ _ _ ajE;obtain ⟨amy,ajH⟩:=tj 3 _ 3 3 1 rfl rfl rfl (by kernel_rfl);obtain ⟨ajI,WS,ajJ⟩:=nm Tryz.underlying3 _ _ _ ajH;obtain ⟨amz,ajK⟩:=tj 4 _ 3 4 1 rfl rfl rfl (by kernel_rfl);obtain ⟨ajL,WT,ajM⟩:=nm Tryz.underlying3 _ _ _ ajK;obtain ⟨amA,ajN⟩:=tj 5 _ 3 5 1 rfl rfl rfl (by kernel_rfl);obtain ⟨ajO,WU,ajP⟩:=nm Tryz.underlying3 _ _ _ ajN;obtain ⟨amB,ajQ⟩:=tj 6 _ 3 6 1 rfl rfl rfl (by kernel_rfl);obtain ⟨ajR,WV,ajS⟩:=nm Tryz.underlying3 _ _ _ ajQ;obtain ⟨amC,ajT⟩:=tj 7 _ 3 7 1 rfl rfl rfl (by kernel_rfl);obtain ⟨ajU,WW,ajV⟩:=nm Tryz.underlying3 _ _ _ ajT;obtain ⟨amD,ajW⟩:=tj 8 _ 3 8 1 rfl rfl rfl (by kernel_rfl);obtain ⟨ajX,WX,ajY⟩:=nm Tryz.underlying3 _ _ _ ajW;obtain ⟨amE,ajZ⟩:=tj 9 _ 3 9 1 rfl rfl rfl (by kernel_rfl);obtain ⟨aj0,WY,aj1⟩:=nm Tryz.underlying3 _ _ _ ajZ;obtain ⟨amF,aj2⟩:=tj 10 _ 3 10 1 rfl rfl rfl (by kernel_rfl);obtain ⟨aj3,WZ,aj4⟩:=nm Tryz.underlying3 _ _ _ aj2;obtain ⟨amG,aj5⟩:=tj 11 _ 3 11 1 rfl rfl rfl (by kernel_rfl);obtain ⟨aj6,W0,aj7⟩:=nm Tryz.underlying3 _ _ _ aj5;simp [Value.cells,aA.encI,cp,I9,ie,dR] at WN WO WR WS WT WU WV WW WX WY WZ W0;subst WN WO WR WS WT WU WV WW WX WY WZ W0;obtain ⟨aj8,rfl,-,-,ai⟩:=open_int Tryz.underlying3 (Cm 1 3 v1 rfl rfl) h1;obtain ⟨amH,uf⟩:=aa;obtain ⟨aj9,amI,aj_,HH,jK⟩:=I_ (nm Tryz.underlying3) Tryz.underlying57 (by kernel_rfl) (by decide) aA.fy uf;obtain ⟨aj',aka,akb,rfl⟩:=okWide_slice Tryz.underlying57 (Cm 2 57 v2 rfl rfl);obtain rfl:Value.slice aj' aka akb=aj9:=by simpa [Value.cells] using aj_
 obtain ⟨akc,rfl,amJ⟩:=okWide_struct Tryz.underlying35 (Cm 3 35 v3 rfl rfl);obtain ⟨zA⟩:=akc;obtain ⟨amK,H5⟩:=aq;obtain ⟨W1,akd,si⟩:=ajp _ _ _ H5;obtain rfl:zA=k5 W1:=akd;refine (ajg (c:=(⟨ajy,ajC,ajF,ajI,ajL,ajO,ajR,ajU,ajX,aj0,aj3,aj6⟩:b1)) (a:=W1) (aj8) ajz ajD ⟨ajG,ajJ,ajM,ajP,ajS,ajV,ajY,aj1,aj4,aj7,ajA,fun k hk=>⟨(WQ k hk).len,(WQ k hk).text⟩⟩ (wf_i64 ai) HH si (by exact jK)).mono ?_;rintro e amL ⟨v,rfl,⟨b4,rfl,rfl⟩,yZ⟩;exact ⟨_,rfl,XQ (tb:=4) (by kernel_rfl) (by kernel_rfl) rfl Tryz.underlying4 rfl Jc yZ rfl⟩
set_option maxRecDepth 100000 in
theorem lifted (os:Os) (started:os.Started) (H:Type) (enc:TypeId×Value→H) :
 ReturnsInHanded {} Tryz.checked os 5 .any (Rows.workerRotsSpec.pre6 enc Tryz.prog Tryz.f5 Rows.workerRotsRow.domain false) (Rows.workerRotsSpec.post enc Tryz.prog Tryz.f5 false true false false):=by
 refine returnsInHanded_of_change (C:=Tryz.checked) (s:=Rows.workerRotsSpec) own started (by kernel_rfl) Tryz.func5
  (ChangeSpec.witness6 false ⟨#[],#[.agg #[.slice none 0 0,.slice none 0 0,.int .i64 0,.int .i64 0,.int .i64 0,.int .i64 0,.int .i64 0,.int .i64 0,.int .i64 0,.int .i64 0,.int .i64 0,.int .i64 0],.int .i64 0,.slice none 0 0,.agg #[.int .i64 0,.int .i64 0,.int .i64 0,.int .i64 0,.int .i64 0,.string (ByteArray.mk #[]),.int .i64 0,.int .i64 0,.bool false,.int .i64 0,.string (ByteArray.mk #[])]],[]⟩ 8 (by kernel_rfl) (by kernel_rfl) (by kernel_rfl) (by kernel_rfl)) ?_
 intro W base args p4 gs before Cm po _ _;exact ajt H enc W base args p4 gs before Cm po
theorem proved:Rows.WorkerRotsSaid:=
 OpenClaim.holds_of_wide 5 Tryz.f5 rfl rfl rfl rfl rfl rfl rfl ⟨rfl,rfl,rfl,rfl,rfl⟩ rfl rfl rfl rfl rfl (by kernel_rfl) Tryz.func5 (by kernel_rfl)
  (of_decide_eq_true (by kernel_rfl)) (by unfold Func.isWrapper; first|(rw [if_pos (by decide +kernel)]; kernel_rfl)|(rw [if_neg (by decide +kernel)]; exact ⟨rfl,rfl⟩))
  (fun os started H enc _=>lifted os started H enc)
end workerRots
end Go.Proofs.YtjideiielmlccaaGreat
