/-
  The statement of FsOps ('upto' form), out of its walk: every input is read, the walk shows that the call answers true and writes nothing that was there.
-/
import Derived.Test.YtbjalbcdbgcgdaaGreatOQ
import Derived.Test.YtbjalbcdbgcgdaaGreatO22
import Derived.Test.YtbjalbcdbgcgdaaGreatO00
import Derived.Test.YtbjalbcdbgcgdaaGreatO02
import Derived.WalkKit
import Derived.ProofKit
import Derived.OpenShut
import Derived.ShutString
import Derived.SizedLaws
import Derived.Deep.CondSized
open Go.Proofs.Tryz renaming prog->lk
open List renaming cons.inj->afz,getElem?_eq_getElem->ak,mem_of_getElem?->jg
open Go.Value renaming int->gh,string->afw
open Go.Lit renaming int->kg
set_option linter.unusedVariables false
set_option maxRecDepth 100000
set_option maxHeartbeats 8000000
namespace Go.Proofs.YtbjalbcdbgcgdaaGreat
namespace lawFsOps
open Go.ChangeShapes Go.WideShapes Go.ChangeAt Go.RowKit
open Go.ChangeMaps (open_string shut_string)
theorem own:ownKnob lk.godebug=none:=Jd
theorem laidOut:laidOutB lk=true:=Jd
theorem one_le {H:Type} (d:DataW H):1≤Rows.uptoBulk d:=by
 cases d with
 |lit l=>cases l<;>simp [Rows.uptoBulk]
 |nil=>simp [Rows.uptoBulk]
 |ptr d=>simp [Rows.uptoBulk]
 |slice elems spare=>simp [Rows.uptoBulk]
 |agg parts=>simp [Rows.uptoBulk]
 |iface t d=>simp [Rows.uptoBulk]
 |map entries=>simp [Rows.uptoBulk]
 |held h=>simp [Rows.uptoBulk]
theorem zL {H:Type} {d:DataW H} {l:List (DataW H)} (h:d∈l):Rows.uptoBulk d≤Rows.uptoBulkAll l:=by
 induction l with
 |nil=>cases h
 |cons x r ih=>
  simp only[Rows.uptoBulkAll];cases List.mem_cons.1 h with
  |inl e=>subst e;omega
  |inr e=>have:=ih e;omega
theorem LZ {H:Type} {xs:List (DataW H×List MemPlace)} {j:Nat} {y:DataW H×List MemPlace} (h:xs[j]? =some y):Rows.uptoBulk y.1≤Rows.uptoBulkAll (xs.map (·.1)):=zL (List.mem_map.2 ⟨y,jg h,rfl⟩)
theorem length_le {H:Type} (l:List (DataW H)):l.length≤Rows.uptoBulkAll l:=by
 induction l with
 |nil=>simp [Rows.uptoBulkAll]
 |cons x r ih=>have:=one_le x;simp only[Rows.uptoBulkAll,List.length_cons];omega
theorem alN {H:Type} {l:List (DataW H)} (hk:Rows.uptoSmall H l=true) {j:Nat} {d:DataW H} (hj:l[j]? =some d):Rows.uptoBulk d≤1048576:=by
 have h1:=zL (jg hj);have h2:Rows.uptoBulkAll l≤1048576:=of_decide_eq_true hk;omega
theorem aVT {H:Type} (enc:TypeId×Value→H) (W:World): ∀ fuel cs x,DataW.trod enc lk W 0 (fun _=>true) true fuel 27 cs=some x→ ∃ y,cs=(fun p:Int×ByteArray×ByteArray×Int×Int×ByteArray=>[gh .i64 p.1,afw p.2.1,afw p.2.2.1,gh .i64 p.2.2.2.1,gh .i64 p.2.2.2.2.1,afw p.2.2.2.2.2]) y∧(fun p:Int×ByteArray×ByteArray×Int×Int×ByteArray=>(kg .i64 p.1).wf=true∧p.2.1.size≤maxLen∧p.2.2.1.size≤maxLen∧(kg .i64 p.2.2.2.1).wf=true∧(kg .i64 p.2.2.2.2.1).wf=true∧p.2.2.2.2.2.size≤maxLen) y∧(fun (p:Int×ByteArray×ByteArray×Int×Int×ByteArray) (d:DataW H)=>p.2.1.size≤Rows.uptoBulk d∧p.2.2.1.size≤Rows.uptoBulk d∧p.2.2.2.2.2.size≤Rows.uptoBulk d) y x.1:=by
 intro fuel cs x h;obtain⟨xs,n,_,hx,hl,hlen,hf⟩:=DataW.trod_struct Tryz.underlying27 h;have hc:lk.cellsOf 27=6:=Jd
 rw[hc] at hl;have c0:lk.cellsOf 3=1:=Jd
 have c1:lk.cellsOf 9=1:=Jd
 have c2:lk.cellsOf 9=1:=Jd
 have c3:lk.cellsOf 3=1:=Jd
 have c4:lk.cellsOf 3=1:=Jd
 have c5:lk.cellsOf 9=1:=Jd
 match cs,hl with
 |[z0,z1,z2,z3,z4,z5],_=>
  have g0:DataW.trod enc lk W 0 (fun _=>true) true n 3 [z0]=xs[0]? :=by have:=hf 0 _ rfl;simpa [c0] using this
  obtain⟨y0,l0⟩: ∃ y:DataW H×List MemPlace,xs[0]? =some y:=⟨_,ak (show 0<xs.length by rw[hlen];decide)⟩;rw[l0] at g0;obtain⟨w0,e0,_,wf0⟩:=DataW.trod_int Tryz.underlying3 g0;have g1:DataW.trod enc lk W 0 (fun _=>true) true n 9 [z1]=xs[1]? :=by have:=hf 1 _ rfl;simpa [c1] using this
  obtain⟨y1,l1⟩: ∃ y:DataW H×List MemPlace,xs[1]? =some y:=⟨_,ak (show 1<xs.length by rw[hlen];decide)⟩;rw[l1] at g1;obtain⟨w1,e1,x1,wf1⟩:=DataW.trod_string Tryz.underlying9 g1;have g2:DataW.trod enc lk W 0 (fun _=>true) true n 9 [z2]=xs[2]? :=by have:=hf 2 _ rfl;simpa [c2] using this
  obtain⟨y2,l2⟩: ∃ y:DataW H×List MemPlace,xs[2]? =some y:=⟨_,ak (show 2<xs.length by rw[hlen];decide)⟩;rw[l2] at g2;obtain⟨w2,e2,x2,wf2⟩:=DataW.trod_string Tryz.underlying9 g2;have g3:DataW.trod enc lk W 0 (fun _=>true) true n 3 [z3]=xs[3]? :=by have:=hf 3 _ rfl;simpa [c3] using this
  obtain⟨y3,l3⟩: ∃ y:DataW H×List MemPlace,xs[3]? =some y:=⟨_,ak (show 3<xs.length by rw[hlen];decide)⟩;rw[l3] at g3;obtain⟨w3,e3,_,wf3⟩:=DataW.trod_int Tryz.underlying3 g3;have g4:DataW.trod enc lk W 0 (fun _=>true) true n 3 [z4]=xs[4]? :=by have:=hf 4 _ rfl;simpa [c4] using this
  obtain⟨y4,l4⟩: ∃ y:DataW H×List MemPlace,xs[4]? =some y:=⟨_,ak (show 4<xs.length by rw[hlen];decide)⟩;rw[l4] at g4;obtain⟨w4,e4,_,wf4⟩:=DataW.trod_int Tryz.underlying3 g4;have g5:DataW.trod enc lk W 0 (fun _=>true) true n 9 [z5]=xs[5]? :=by have:=hf 5 _ rfl;simpa [c5] using this
  obtain⟨y5,l5⟩: ∃ y:DataW H×List MemPlace,xs[5]? =some y:=⟨_,ak (show 5<xs.length by rw[hlen];decide)⟩;rw[l5] at g5;obtain⟨w5,e5,x5,wf5⟩:=DataW.trod_string Tryz.underlying9 g5;have b1:=LZ l1;rw[x1] at b1;have c1_:w1.size≤Rows.uptoBulk x.1:=by rw[hx];simp only[Rows.uptoBulk] at b1 ⊢;have e9:w1.data.toList.length=w1.size:=Ja;omega
  have b2:=LZ l2;rw[x2] at b2;have c2_:w2.size≤Rows.uptoBulk x.1:=by rw[hx];simp only[Rows.uptoBulk] at b2 ⊢;have e9:w2.data.toList.length=w2.size:=Ja;omega
  have b5:=LZ l5;rw[x5] at b5;have c5_:w5.size≤Rows.uptoBulk x.1:=by rw[hx];simp only[Rows.uptoBulk] at b5 ⊢;have e9:w5.data.toList.length=w5.size:=Ja;omega
  refine⟨(w0,w1,w2,w3,w4,w5), ?_,⟨wf0,wf1,wf2,wf3,wf4,wf5⟩,⟨c1_,c2_,c5_⟩⟩;have ee:[z0,z1,z2,z3,z4,z5]=[gh .i64 w0,afw w1,afw w2,gh .i64 w3,gh .i64 w4,afw w5]:=by rw[(afz e0).1,(afz e1).1,(afz e2).1,(afz e3).1,(afz e4).1,(afz e5).1]
  exact ee
theorem lifted (os:Os) (started:os.Started) (H:Type) (enc:TypeId×Value→H) (F:Stop.Interp):
  ReturnsInHanded {} Tryz.checked os 8 .any ((Rows.OpenSpec.upto Rows.fsOpsSpec).pre6 enc lk Tryz.f8 Rows.fsOpsUptoRow.domain false) (((Rows.OpenSpec.upto Rows.fsOpsSpec).at F).post enc lk Tryz.f8 false true false false):=by
 refine returnsInHanded_of_cond_sized (C:=Tryz.checked) (s:=Rows.OpenSpec.upto Rows.fsOpsSpec) (k:=Rows.uptoSmall) rfl own started Jd Tryz.func8
  (OpenSpec.witness (enc := enc) (C := Tryz.checked) (s := Rows.OpenSpec.upto Rows.fsOpsSpec) (k := Rows.uptoSmall) rfl false ⟨#[], #[.int .i64 0, .slice none 0 0], []⟩ 8 Jd Jd Jd
   (x := ([.lit (.int .i64 0), .nil], [], [])) Jd rfl Jd) ?_
 intro W base args ds gs before zy hW hcnd hk hsz0 _;have zx: ∀ (j:Nat) t v,Tryz.f8.params[j]? =some t→args[j]? =some v→Value.okWide lk W .any base t v:=zy;have zu:=hW;obtain⟨p,q,zw,hV,rfl,hfz,hnd⟩:=hW;have hA:DataW.TrodAll enc lk W 0 (fun _=>true) true Tryz.f8.params.toList args.toList ds p:=zw;rw[Tryz.params8] at hA zx;obtain⟨v0,vs0,d0,ds0,p0,q0,hargs,rfl,rfl,h0,r0⟩:=trodAll_cons hA;obtain⟨v1,vs1,d1,ds1,p1,q1,rfl,rfl,rfl,h1,r1⟩:=trodAll_cons r0;obtain⟨rfl,rfl,rfl⟩:=trodAll_nil r1;obtain rfl:args= #[v0,v1]:=by cases args;simp_all
 obtain⟨rfl,rfl⟩:=trodVars_none hV;have k0:=h0;have lt0: ∀ x∈p0,x.block<W.heap.size:=by obtain⟨m,hm⟩:=k0;exact DataW.trod_lt m _ _ _ hm
 have k1:=h1;have lt1: ∀ x∈p1,x.block<W.heap.size:=by obtain⟨m,hm⟩:=k1;exact DataW.trod_lt m _ _ _ hm
 obtain⟨a0,rfl,rfl,rfl,wf0⟩:=open_int Tryz.underlying3 (zx 0 3 v0 rfl rfl) h0;obtain⟨xs1,zt,zr,zv⟩:=bO.XT (fun p:Int×ByteArray×ByteArray×Int×Int×ByteArray=>[gh .i64 p.1,afw p.2.1,afw p.2.2.1,gh .i64 p.2.2.2.1,gh .i64 p.2.2.2.2.1,afw p.2.2.2.2.2]) (fun p:Int×ByteArray×ByteArray×Int×Int×ByteArray=>(kg .i64 p.1).wf=true∧p.2.1.size≤maxLen∧p.2.2.1.size≤maxLen∧(kg .i64 p.2.2.2.1).wf=true∧(kg .i64 p.2.2.2.2.1).wf=true∧p.2.2.2.2.2.size≤maxLen) (fun (p:Int×ByteArray×ByteArray×Int×Int×ByteArray) (d:DataW H)=>p.2.1.size≤Rows.uptoBulk d∧p.2.2.1.size≤Rows.uptoBulk d∧p.2.2.2.2.2.size≤Rows.uptoBulk d) Tryz.underlying22 6 Jd Z9 (aVT enc W) (zx 1 22 v1 rfl rfl) h1;have zq:xs1.length≤1048576:=by
  rcases zv with⟨rfl,rfl⟩|⟨el,sp,rfl,hl,_⟩
  ·simp
  ·have h:=alN hk (j:=1) rfl;simp only[Rows.uptoBulk] at h;have h2:=length_le el;omega
 have zn: ∀ p∈xs1,p.2.1.size≤1048576∧p.2.2.1.size≤1048576∧p.2.2.2.2.2.size≤1048576:=by
  intro p hp;rcases zv with⟨rfl,rfl⟩|⟨el,sp,rfl,hl,hsz⟩
  ·cases hp
  ·obtain⟨e,he,h1⟩:=hsz p hp;have h:=alN hk (j:=1) rfl;simp only[Rows.uptoBulk] at h;have h2:=zL he;obtain⟨q0,q1,q2⟩:=h1;exact⟨by (try dsimp only at q0);omega,by (try dsimp only at q1);omega,by (try dsimp only at q2);omega⟩
 clear zw zy;refine (walk W a0 wf0 v1 xs1 zt zr zq zn).mono fun e W' ⟨he,bel⟩=> ?_
 subst he;exact⟨_,rfl,_,_,_,[],_,[],zu,trodAll_mk1 (shut_bool Tryz.underlying4 _),(trodAll_cons_mk (Below.trod laidOut Jd (of_decide_eq_true Jd) k0 bel lt0) (trodAll_cons_mk (Below.trod laidOut Jd (of_decide_eq_true Jd) k1 bel lt1) trodAll_mk0)),rfl,bel.frame _,fun h=>by cases h⟩
theorem closed:joinedFacts Tryz.pinned.checked.prog 8 Tryz.f8 (Rows.OpenSpec.upto Rows.fsOpsSpec).bare Rows.fsOpsUptoRow=true:=by
 unfold joinedFacts;simp only[Bool.and_eq_true]
 repeat' apply And.intro
 all_goals (as_aux_lemma=>kernel_rfl)
theorem over:Rows.fsOpsUptoRow.holds Tryz.pinned (Rows.OpenSpec.upto Rows.fsOpsSpec):=
 OpenClaim.holds_of_cond 8 Tryz.f8 rfl rfl rfl rfl rfl rfl rfl ⟨rfl,rfl,rfl,rfl,rfl⟩ rfl rfl rfl rfl rfl Jd Tryz.func8 closed
  (of_decide_eq_true Jd) (by unfold Func.isWrapper;first|(rw[Jg Je];kernel_rfl)|(rw[Jf Je];exact⟨rfl,rfl⟩))
  (fun os started H enc _ F=>lifted os started H enc F)
theorem proved:Rows.FsOpsUptoSaid:=
 over
#print axioms proved
end lawFsOps
