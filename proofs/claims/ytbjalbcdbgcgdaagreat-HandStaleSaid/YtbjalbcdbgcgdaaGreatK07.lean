/- Law HandStale: its texts, packed. -/
import Derived.Test.YtbjalbcdbgcgdaaGreatK06
import Derived.Test.YtbjalbcdbgcgdaaGreatK05
import Derived.Test.YtbjalbcdbgcgdaaGreatRows
open Nat renaming blt->bh
set_option linter.unusedVariables false
set_option maxRecDepth 100000
set_option maxHeartbeats 8000000
namespace Go.Proofs.YtbjalbcdbgcgdaaGreat.sl
open Go.RowKit bG
structure Tk (Q:Prop):Prop where
 go:Q
def arK (op:Op):Bool:=match cZ op with
 |1=>true
 |2=>true
 |3=>true
 |4=>true
 |5=>true
 |6=>true
 |11=>true
 |12=>true
 |_=>false
section
variable {P:Program} {ops:Array Oper} {Q:eP} {n:Nat} {rest:List Oper} {d:Nat} {op:Op} {ty:TypeId} {ps:String} {af:Array Edge} {g:Option (Nat×Bool)} {v:Value} {F:dF} {H Hq:List Ent} {nk:List Nat} {r i m:Nat} {L:Array Bool}
theorem arL (hk:arK op=true) (hg:kR ops F ⟨some d,op,ty,ps,af,g⟩) (hd:bh d n=true) (h:Qt P n ⟨some d,op,ty,ps,af,g⟩ F H v) (k:cG P ops Q n rest ((d,v)::F) H):cG P ops Q n (⟨some d,op,ty,ps,af,g⟩::rest) F H:=dJ hg hd h k
theorem adK (hi:ops[i]? =some ⟨some d,op,ty,ps,af,g⟩) (hk:arK op=true) (hg:kR ops F ⟨some d,op,ty,ps,af,g⟩) (hb:eV ops nk L i=true) (hs:HSub H Hq) (hd:bh d n=true) (hq:Qt P n ⟨some d,op,ty,ps,af,g⟩ F Hq v) (h:cQ P ops Q n Hq nk r (i+1) m (L.setIfInBounds i true) ((d,v)::F) H):cQ P ops Q n Hq nk r i (m+1) L F H:=aU (cZ op) hi rfl hg hb hs hd hq h
theorem akX (hi:ops[i]? =some ⟨some d,op,ty,ps,af,g⟩) (hk:arK op=true) (hr:Region.ready .any ops L=[i]) (hg:kR ops F ⟨some d,op,ty,ps,af,g⟩) (hd:bh d n=true) (hq:Qt P n ⟨some d,op,ty,ps,af,g⟩ F H v) (hs:HSub H Hq) (h:cQ P ops Q n Hq nk r (i+1) m (L.setIfInBounds i true) ((d,v)::F) H):cQ P ops Q n Hq nk r i (m+1) L F H:=akV (cZ op) hi rfl hr hg hd hq hs h
theorem ahM {l:List Oper} (h:cG P ops Q n l F H):cG P ops Q n l F H:=h
theorem aCQ {c:Code} (h:dC P Q n c F H):dC P Q n c F H:=h
theorem aCR {e:Exit} (h:dG Q e n F H):dG Q e n F H:=h
theorem arM (h:cQ P ops Q n Hq nk r i m L F H):cQ P ops Q n Hq nk r i m L F H:=h
end
theorem Wq1 {P:Program} {n:Nat} {o:Oper} {F:dF} {H:List Ent} {v:Value} (hk:cZ o.op=1:=by exact rfl) (h:Qt P n o F H v:=by exact qg1):Qt P n o F H v:=h
theorem Wq2 {P:Program} {n:Nat} {o:Oper} {F:dF} {H:List Ent} {v:Value} (hk:cZ o.op=2:=by exact rfl) (h:Qt P n o F H v:=by first|exact qg2|exact qs2):Qt P n o F H v:=h
theorem Wq3 {P:Program} {n:Nat} {o:Oper} {F:dF} {H:List Ent} {v:Value} (hk:cZ o.op=3:=by exact rfl) (h:Qt P n o F H v:=by first|exact qg3|exact qs3):Qt P n o F H v:=h
theorem Wq4 {P:Program} {n:Nat} {o:Oper} {F:dF} {H:List Ent} {v:Value} (hk:cZ o.op=4:=by exact rfl) (h:Qt P n o F H v:=by first|exact qg4|exact qs4):Qt P n o F H v:=h
theorem Wq5 {P:Program} {n:Nat} {o:Oper} {F:dF} {H:List Ent} {v:Value} (hk:cZ o.op=5:=by exact rfl) (h:Qt P n o F H v:=by exact qg5):Qt P n o F H v:=h
theorem Wq6 {P:Program} {n:Nat} {o:Oper} {F:dF} {H:List Ent} {v:Value} (hk:cZ o.op=6:=by exact rfl) (h:Qt P n o F H v:=by first|exact qs6|exact qg6|exact aCP rfl rfl rfl|exact FE rfl rfl (by omega)|exact zG rfl rfl|exact sU rfl rfl rfl|exact EZ rfl rfl):Qt P n o F H v:=h
theorem aDQ {P:Program} {n:Nat} {o:Oper} {F:dF} {H:List Ent} {v:Value} (hk:cZ o.op=11:=by exact rfl) (h:Qt P n o F H v:=by exact aGC):Qt P n o F H v:=h
theorem aDR {P:Program} {n:Nat} {o:Oper} {F:dF} {H:List Ent} {v:Value} (hk:cZ o.op=12:=by exact rfl) (h:Qt P n o F H v:=by first|exact aGD|exact arJ rfl rfl rfl rfl (by omega) (by omega)|exact tT rfl rfl rfl rfl (by omega)):Qt P n o F H v:=h
theorem Vq1 {P:Program} {n:Nat} {o:Oper} {F:dF} {H:List Ent} {v:Value} (hk:cZ o.op=1:=by exact rfl) (h:Qt P n o F H v:=by exact qg1):Qt P n o F H v:=h
theorem Vq2 {P:Program} {n:Nat} {o:Oper} {F:dF} {H:List Ent} {v:Value} (hk:cZ o.op=2:=by exact rfl) (h:Qt P n o F H v:=by exact qg2):Qt P n o F H v:=h
theorem Vq3 {P:Program} {n:Nat} {o:Oper} {F:dF} {H:List Ent} {v:Value} (hk:cZ o.op=3:=by exact rfl) (h:Qt P n o F H v:=by exact qg3):Qt P n o F H v:=h
theorem Vq4 {P:Program} {n:Nat} {o:Oper} {F:dF} {H:List Ent} {v:Value} (hk:cZ o.op=4:=by exact rfl) (h:Qt P n o F H v:=by exact qg4):Qt P n o F H v:=h
theorem Vq5 {P:Program} {n:Nat} {o:Oper} {F:dF} {H:List Ent} {v:Value} (hk:cZ o.op=5:=by exact rfl) (h:Qt P n o F H v:=by exact qg5):Qt P n o F H v:=h
theorem Vq6 {P:Program} {n:Nat} {o:Oper} {F:dF} {H:List Ent} {v:Value} (hk:cZ o.op=6:=by exact rfl) (h:Qt P n o F H v:=by exact qg6):Qt P n o F H v:=h
theorem Wa {P Q:Prop} (q:Q) (h:Tk Q→P:=by intro h;(first|(refine ahM ?_;(first|(apply arL;(focus exact rfl);(focus exact wt);(focus exact rfl);(focus (first|exact Wq1|exact Wq2|exact Wq3|exact Wq4|exact Wq5|exact Wq6|exact aDQ|exact aDR|fail)))|refine agX ?_|(apply IE 9;(focus rfl);(focus exact wt);(focus (exact cX rfl rfl rfl (by exact aN) rfl rfl rfl (by exact akQ)));(rintro _ _ ⟨rfl,rfl⟩))|(apply IE 9;(focus rfl);(focus exact wt);(focus (exact bW rfl rfl rfl rfl (by exact aN) rfl (by exact akP)));(rintro _ _ ⟨rfl,rfl⟩))|(apply XG;(focus rfl);(focus rfl);(focus rfl))|(apply XH;(focus rfl);(focus rfl))|(apply QM;(focus rfl);(focus rfl);(focus rfl))|(apply QN;(focus rfl);(focus rfl))|fail))|(refine aCR ?_;(first|refine XA ?_|refine tH ?_|refine wK rfl ?_|refine wJ ?_|refine wI ?_|refine yS ?_|refine PZ ?_|refine QP ?_|refine wO ?_|refine tU ?_|fail))|(refine aCQ ?_;(first|refine JK ?_|(apply JI;(focus rfl))|(apply JJ;(focus rfl))|refine PY ?_|refine WW ?_|refine agW ?_|refine WV ?_|refine QQ ?_|refine QR ?_|fail))|fail);exact h.go):P:=h ⟨q⟩
theorem Wo {P Q:Prop} (q:Q) (h:Tk Q→P:=by intro h;(first|(refine ahM ?_;(first|(apply arL;(focus exact rfl);(focus exact wt);(focus exact rfl);(focus (first|exact Vq1|exact Vq2|exact Vq3|exact Vq4|exact Vq5|exact Vq6|fail)))|refine agX ?_|(apply IE 9;(focus rfl);(focus exact wt);(focus (exact cX rfl rfl rfl (by exact aN) rfl rfl rfl (by exact akQ)));(rintro _ _ ⟨rfl,rfl⟩))|(apply IE 9;(focus rfl);(focus exact wt);(focus (exact bW rfl rfl rfl rfl (by exact aN) rfl (by exact akP)));(rintro _ _ ⟨rfl,rfl⟩))|(apply XG;(focus rfl);(focus rfl);(focus rfl))|(apply XH;(focus rfl);(focus rfl))|(apply QM;(focus rfl);(focus rfl);(focus rfl))|(apply QN;(focus rfl);(focus rfl))|fail))|(refine aCR ?_;(first|refine XA ?_|refine tH ?_|refine wK rfl ?_|refine wJ ?_|refine wI ?_|refine yS ?_|refine PZ ?_|refine QP ?_|refine wO ?_|refine tU ?_|fail))|(refine aCQ ?_;(first|refine JK ?_|(apply JI;(focus rfl))|(apply JJ;(focus rfl))|refine PY ?_|refine WW ?_|refine agW ?_|refine WV ?_|refine QQ ?_|refine QR ?_|fail))|fail);exact h.go):P:=h ⟨q⟩
theorem Wb {P Q:Prop} (q:Q) (h:Tk Q→P:=by intro h;(first|(refine ahM ?_;(first|(apply rU 8;(focus rfl);(focus exact wt);(focus rfl);(focus (exact pF rfl rfl));(rintro _ _ ⟨b,rfl,rfl⟩);revert b)|(apply rU 8;(focus rfl);(focus exact wt);(focus rfl);(focus (exact pG rfl rfl rfl));(rintro _ _ ⟨b,rfl,rfl⟩);revert b)|(apply rU 8;(focus rfl);(focus exact wt);(focus rfl);(focus (exact iI rfl));(rintro _ _ ⟨b,rfl,rfl⟩);revert b)|fail))|(refine arM ?_;(first|(apply gW 8;(focus rfl);(focus rfl);(focus (decide +kernel));(focus exact wt);(focus rfl);(focus (exact pF rfl rfl));(rintro _ _ ⟨b,rfl,rfl⟩;refine⟨(by first|exact fun h=>absurd h (by decide)|exact fun _=>iS), ?_⟩);revert b)|(apply gW 8;(focus rfl);(focus rfl);(focus (decide +kernel));(focus exact wt);(focus rfl);(focus (exact pG rfl rfl rfl));(rintro _ _ ⟨b,rfl,rfl⟩;refine⟨(by first|exact fun h=>absurd h (by decide)|exact fun _=>iS), ?_⟩);revert b)|(apply gW 8;(focus rfl);(focus rfl);(focus (decide +kernel));(focus exact wt);(focus rfl);(focus (exact iI rfl));(rintro _ _ ⟨b,rfl,rfl⟩;refine⟨(by first|exact fun h=>absurd h (by decide)|exact fun _=>iS), ?_⟩);revert b)|fail))|fail);exact h.go):P:=h ⟨q⟩
theorem Wq {P Q:Prop} (q:Q) (h:Tk Q→P:=by intro h;(first|(apply rU 10;(focus rfl);(focus exact wt);(focus rfl);(focus (exact aM rfl rfl rfl (by exact lE) rfl rfl (by decide) rfl));(rintro _ _ ⟨q,rfl,rfl⟩);revert q)|(apply gW 10;(focus rfl);(focus rfl);(focus (decide +kernel));(focus exact wt);(focus rfl);(focus (exact aM rfl rfl rfl (by exact lE) rfl rfl (by decide) rfl));(rintro _ _ ⟨q,rfl,rfl⟩;refine⟨(by first|exact fun h=>absurd h (by decide)|exact fun _=>iS), ?_⟩;(try refine QL iS ?_));revert q)|fail);exact h.go):P:=h ⟨q⟩
theorem Wr {P Q:Prop} (q:Q) (h:Tk Q→P:=by intro h;(first|(apply rU 10;(focus rfl);(focus exact wt);(focus rfl);(focus (exact aM rfl rfl rfl (by exact lE) rfl rfl (by decide) rfl));(rintro _ _ ⟨q,rfl,rfl⟩);revert q)|fail);exact h.go):P:=h ⟨q⟩
theorem We {P Q:Prop} (q:Q) (h:Tk Q→P:=by intro h;(first|refine aF ?_|(apply XY;(focus kernel_rfl);(focus (simp only[List.length_cons,List.length_nil,Nat.reduceAdd];rfl)))|fail);exact h.go):P:=h ⟨q⟩
theorem Ws {P Q R:Prop} (q:Q) (r:R) (h:Tk Q→Tk R→P:=by intro h1 h2;(first|(refine ahM ?_;(first|((first|(apply ayC;(rotate_left 2);(focus rfl))|(apply ayD;(rotate_left 2);(focus rfl))|(apply ayE;(rotate_left 2);(focus rfl))|(apply ayF;(rotate_left 2);(focus rfl))|(apply ayG;(rotate_left 2);(focus rfl))|(apply ayH;(rotate_left 2);(focus rfl))|(apply run_seq;(rotate_left 2);(focus rfl))|(apply aqU;(rotate_left 2);(focus rfl)));(focus rfl);(focus rfl);(rotate_right 2);(focus exact wt);(focus rfl);(all_goals (intro h;dsimp only[pA];revert h)))|fail))|(refine arM ?_;(first|(apply arD;(focus rfl);(focus rfl);(focus rfl);(focus exact wt);(focus (decide +kernel));(focus exact iS);(focus rfl))|(apply arE;(focus rfl);(focus rfl);(focus rfl);(focus exact wt);(focus (decide +kernel));(focus exact iS);(focus rfl))|(apply arF;(focus rfl);(focus rfl);(focus rfl);(focus exact wt);(focus (decide +kernel));(focus exact iS);(focus rfl))|(apply arG;(focus rfl);(focus rfl);(focus rfl);(focus exact wt);(focus (decide +kernel));(focus exact iS);(focus rfl))|(apply arH;(focus rfl);(focus rfl);(focus rfl);(focus exact wt);(focus (decide +kernel));(focus exact iS);(focus rfl))|(apply arI;(focus rfl);(focus rfl);(focus rfl);(focus exact wt);(focus (decide +kernel));(focus exact iS);(focus rfl))|fail))|fail);(focus exact h1.go);exact h2.go):P:=h ⟨q⟩ ⟨r⟩
theorem Wk {P Q:Prop} (q:Q) (h:Tk Q→P:=by intro h;(first|(refine arM ?_;(first|(apply akS;(focus exact rfl))|(apply arB;(focus (decide +kernel)))|(apply adK;(focus exact rfl);(focus exact rfl);(focus exact wt);(focus (decide +kernel));(focus exact iS);(focus exact rfl);(focus (first|exact Wq1|exact Wq2|exact Wq3|exact Wq4|exact Wq5|exact Wq6|exact aDQ|exact aDR|fail)))|(apply akX;(focus exact rfl);(focus exact rfl);(focus (decide +kernel));(focus exact wt);(focus exact rfl);(focus (first|exact Wq1|exact Wq2|exact Wq3|exact Wq4|exact Wq5|exact Wq6|exact aDQ|exact aDR|fail));(focus exact iS))|(apply arC;(focus rfl);(focus rfl);(focus rfl);(focus (decide +kernel));(focus exact iS);(focus rfl))|(apply akW;(focus rfl);(focus rfl);(focus rfl);(focus (decide +kernel));(focus exact iS);(focus rfl))|(apply CL 9;(focus rfl);(focus rfl);(focus (decide +kernel));(focus exact wt);(focus (exact cX rfl rfl rfl (by exact aN) rfl rfl rfl (by exact akQ)));(rintro _ _ ⟨rfl,rfl⟩;refine⟨(by first|exact fun h=>absurd h (by decide)|exact fun _=>iS), ?_⟩))|(apply CL 9;(focus rfl);(focus rfl);(focus (decide +kernel));(focus exact wt);(focus (exact bW rfl rfl rfl rfl (by exact aN) rfl (by exact akP)));(rintro _ _ ⟨rfl,rfl⟩;refine⟨(by first|exact fun h=>absurd h (by decide)|exact fun _=>iS), ?_⟩))|fail))|fail);exact h.go):P:=h ⟨q⟩
theorem Wz {P Q:Prop} (q:Q) (h:Tk Q→P:=by intro h;(first|(apply akT;(focus rfl))|(apply akU;(focus rfl))|fail);exact h.go):P:=h ⟨q⟩
theorem Wi {P Q:Prop} (q:Q) (h:Tk Q→P:=by intro h;(first|(apply tN 1 _;(focus rfl);(focus exact wt);(focus rfl);(focus (exact pF rfl rfl));(rintro _ _ ⟨b,rfl,rfl⟩;refine⟨(by first|exact fun h=>absurd h (by decide)|exact fun _=>iS), ?_⟩);revert b)|(apply tN 1 _;(focus rfl);(focus exact wt);(focus rfl);(focus (exact pG rfl rfl rfl));(rintro _ _ ⟨b,rfl,rfl⟩;refine⟨(by first|exact fun h=>absurd h (by decide)|exact fun _=>iS), ?_⟩);revert b)|(apply tN 1 _;(focus rfl);(focus exact wt);(focus rfl);(focus (exact iI rfl));(rintro _ _ ⟨b,rfl,rfl⟩;refine⟨(by first|exact fun h=>absurd h (by decide)|exact fun _=>iS), ?_⟩);revert b)|fail);exact h.go):P:=h ⟨q⟩
theorem Wj {P Q:Prop} (q:Q) (h:Tk Q→P:=by intro h;(first|(apply tN 1 _;(focus rfl);(focus exact wt);(focus rfl);(focus (exact aM rfl rfl rfl (by exact lE) rfl rfl (by decide) rfl));(rintro _ _ ⟨q,rfl,rfl⟩;refine⟨(by first|exact fun h=>absurd h (by decide)|exact fun _=>iS), ?_⟩);(try refine QL iS ?_);revert q)|fail);exact h.go):P:=h ⟨q⟩
theorem Wc {Z:Program} {f:FuncId} {az:List Value} {H:List Ent} {R:Value→List Ent→Prop} {P Q:Prop} (c:Ct Z f az H R) (q:Q) (h:Ct Z f az H R→Tk Q→P:=by intro c h;(first|(apply rU 7;(focus rfl);(focus exact wt);(focus rfl);(focus (exact pJ (by rfl) c (by rfl) PG));(rintro _ _ ⟨rfl,rfl⟩))|(apply gW 7;(focus rfl);(focus rfl);(focus (decide +kernel));(focus exact wt);(focus rfl);(focus (exact pJ (by rfl) c (by rfl) PG));(rintro _ _ ⟨rfl,rfl⟩;refine⟨(by first|exact fun h=>absurd h (by decide)|exact fun _=>iS), ?_⟩))|(apply tN 1 _;(focus rfl);(focus exact wt);(focus rfl);(focus (exact pJ (by rfl) c (by rfl) PG));(rintro _ _ ⟨rfl,rfl⟩;refine⟨(by first|exact fun h=>absurd h (by decide)|exact fun _=>iS), ?_⟩))|fail);exact h.go):P:=h c ⟨q⟩
theorem Wg {Z:Program} {f:FuncId} {az:List Value} {H:List Ent} {R:Value→List Ent→Prop} {P Q:Prop} (c:Ct Z f az H R) (q:Q) (h:Ct Z f az H R→Tk Q→P:=by intro c h;(first|(apply rU 7;(focus rfl);(focus exact wt);(focus rfl);(focus (exact dD (by rfl) (by rfl) (by rfl) c (by rfl) PG));(rintro _ _ ⟨rfl,rfl⟩))|(apply gW 7;(focus rfl);(focus rfl);(focus (decide +kernel));(focus exact wt);(focus rfl);(focus (exact dD (by rfl) (by rfl) (by rfl) c (by rfl) PG));(rintro _ _ ⟨rfl,rfl⟩;refine⟨(by first|exact fun h=>absurd h (by decide)|exact fun _=>iS), ?_⟩))|fail);exact h.go):P:=h c ⟨q⟩
theorem We1 {P Q:Prop} (q:Q) (h:Tk Q→P:=by intro h;(first|(apply gK 2;(focus rfl);(focus exact wt);(focus rfl);(focus (exact QS rfl rfl (by exact aN) (by first|assumption|exact aGE .. |exact aGF (by omega)|exact aGG (by omega)|exact aGH (by omega)))))|(apply gK 3;(focus rfl);(focus exact wt);(focus rfl);(focus (exact tV rfl rfl rfl (by first|assumption|rfl|omega) (by omega) (by rfl))))|(apply gK 4;(focus rfl);(focus exact wt);(focus rfl);(focus (first|exact arN rfl rfl rfl (by assumption) (by omega) (by assumption)|exact arO rfl rfl rfl (by assumption) (by omega) (by assumption))))|(apply aU 2;(focus rfl);(focus rfl);(focus exact wt);(focus (decide +kernel));(focus exact iS);(focus rfl);(focus (exact QS rfl rfl (by exact aN) (by first|assumption|exact aGE .. |exact aGF (by omega)|exact aGG (by omega)|exact aGH (by omega)))))|(apply aU 3;(focus rfl);(focus rfl);(focus exact wt);(focus (decide +kernel));(focus exact iS);(focus rfl);(focus (exact tV rfl rfl rfl (by first|assumption|rfl|omega) (by omega) (by rfl))))|(apply aU 4;(focus rfl);(focus rfl);(focus exact wt);(focus (decide +kernel));(focus exact iS);(focus rfl);(focus (first|exact arN rfl rfl rfl (by assumption) (by omega) (by assumption)|exact arO rfl rfl rfl (by assumption) (by omega) (by assumption))))|fail);exact h.go):P:=h ⟨q⟩
theorem Da {P Q:Prop} (q:Q) (h:Tk Q→P:=by intro h;dsimp only[List.cons_append,List.nil_append];exact h.go):P:=h ⟨q⟩
theorem Te {A B:Prop} (b:B) (a:A:=by first|exact fun h=>absurd h (by decide)|exact fun _=>iS):A∧B:=⟨a,b⟩
theorem Tf {A B:Prop} (b:B) (a:A:=by first|exact fun h=>absurd h (by decide)|exact fun _=>HSub.trans (HSub.nZ (List.sublist_append_right _ _)) iS|exact fun _=>iS):A∧B:=⟨a,b⟩
section
variable {P:Program} {fn:Func} {R:Value→List Ent→Prop} {Fr:List Ent} {n:Nat} {F:dF} {H H' H1:List Ent} {rs:List ResultVar} {v:Value} {Q:eP} {ops:Array Oper} {rest:List Oper}
theorem Ea (hrs:fn.results=rs.toArray:=by exact rfl) (hr:yT P F H rs v:=by exact qK) (x:R v H') (hH:HSub H (H'++Fr):=by exact yP):dG (Fin P fn R Fr) .ret n F H:=gU hrs hr H' x hH
theorem Eb (hrs:fn.results=rs.toArray:=by exact rfl) (hr:yT P F H rs v:=by exact qK) (x:R v H') (hH:HSub H (H'++Fr):=by exact yP):dG (Fin P fn R Fr) .normal n F H:=XF hrs hr H' x hH
theorem Ec (hrs:fn.results=rs.toArray:=by exact rfl) (hr:yT P F H rs v:=by exact qK) (x:R v H') (hH:HSub H (H'++Fr):=by exact (HSub.trans (HSub.nZ (by repeat (first|exact List.Sublist.refl _|apply List.Sublist.cons))) (bO List.perm_append_comm))):dG (Fin P fn R Fr) .ret n F H:=gU hrs hr H' x hH
theorem Ed (hrs:fn.results=rs.toArray:=by exact rfl) (hr:yT P F H rs v:=by exact qK) (x:R v H') (hH:HSub H (H'++Fr):=by exact (HSub.nZ (List.Sublist.append_left (by repeat (first|exact List.Sublist.refl _|apply List.Sublist.cons)) _))):dG (Fin P fn R Fr) .ret n F H:=gU hrs hr H' x hH
theorem Ee {σ:Type} {I:σ→Prop} {Fi:σ→dF} {Hi:σ→List Ent} {μ:σ→Nat} {k:Nat} (y:σ) (hI:I y) (hμ:μ y<k) (hF:jB F (Fi y):=by exact jB.of (by (try dsimp only);exact gA)) (hH:HSub H (Hi y):=by (try dsimp only);exact yP):dG (Exit.then (XB n I Fi Hi μ k) Q) .normal n F H:=akH y hI hF hH hμ
variable {d:Nat} {op:Op} {ty:TypeId} {ps:String} {af:Array Edge} {g:Option (Nat×Bool)} {f:FuncId} {args:List Operand} {ts:Array TypeId} {vs:List Value} {C S:List Ent} {Rs:Value→List Ent→Prop}
theorem Ca [hc:bX P f] [hX:Xcl Rs] (c:Ct P f vs C Rs) (k: ∀ v H',(∃ H1,Rs v H1∧H'=H1++S)→cG P ops Q n rest ((d,v)::F) H') (ho:op= .call { callee:= .value (.func f),args:=args.toArray,argTypes:=ts }:=by exact rfl) (hv:UD F args=some vs:=by exact rfl) (p:Lp C H S:=by exact PG) (hg:kR ops F ⟨some d,op,ty,ps,af,g⟩:=by exact wt) (hd:Nat.blt d n=true:=by exact rfl):cG P ops Q n (⟨some d,op,ty,ps,af,g⟩::rest) F H:=aI hg hd (aV ho c hv p) k
theorem Cb [hc:bX P f] (c:Ct P f vs C Rs) (k: ∀ v H',(∃ H1,Rs v H1∧H'=H1++S)→cG P ops Q n rest ((d,v)::F) H') (ho:op= .call { callee:= .value (.func f),args:=args.toArray,argTypes:=ts }:=by exact rfl) (hv:UD F args=some vs:=by exact rfl) (p:iE C H S:=by exact pca) (hg:kR ops F ⟨some d,op,ty,ps,af,g⟩:=by exact wt) (hd:Nat.blt d n=true:=by exact rfl):cG P ops Q n (⟨some d,op,ty,ps,af,g⟩::rest) F H:=aI hg hd (kD ho c hv p) k
variable {Hq:List Ent} {nk:List Nat} {r m j:Nat} {L:Array Bool} {K:Value→List Ent→Prop}
theorem Cc (i:Nat) [hc:bX P f] [hX:Xcl Rs] (c:Ct P f vs C Rs) (k: ∀ v H',(∃ H1,Rs v H1∧H'=H1++S)→(nk.contains i=false→HSub H' Hq)∧cQ P ops Q n Hq nk r (i+1) m (L.setIfInBounds i true) ((d,v)::F) H') (hi:ops[i]? =some ⟨some d,op,ty,ps,af,g⟩:=by exact rfl) (ho:op= .call { callee:= .value (.func f),args:=args.toArray,argTypes:=ts }:=by exact rfl) (hr:Region.ready .any ops L=[i]:=by kernel_rfl) (hg:kR ops F ⟨some d,op,ty,ps,af,g⟩:=by exact wt) (hd:Nat.blt d n=true:=by exact rfl) (hv:UD F args=some vs:=by exact rfl) (p:Lp C H S:=by exact PG):cQ P ops Q n Hq nk r j (m+1) L F H:=aA i (gW (cZ op) hi rfl hr hg hd (aV ho c hv p) k)
theorem Cd (i:Nat) [hc:bX P f] [hX:Xcl Rs] (c:Ct P f vs C Rs) (k: ∀ v H',(∃ H1,Rs v H1∧H'=H1++S)→(nk.contains i=false→HSub H' Hq)∧cQ P ops Q n Hq nk 1 0 m (L.setIfInBounds i true) ((d,v)::F) H') (hi:ops[i]? =some ⟨some d,op,ty,ps,af,g⟩:=by exact rfl) (ho:op= .call { callee:= .value (.func f),args:=args.toArray,argTypes:=ts }:=by exact rfl) (hg:kR ops F ⟨some d,op,ty,ps,af,g⟩:=by exact wt) (hd:Nat.blt d n=true:=by exact rfl) (hv:UD F args=some vs:=by exact rfl) (p:Lp C H S:=by exact PG):JT P ops Q n Hq nk m L F H i:=tN 1 i hi hg hd (aV ho c hv p) k
theorem Ce (i:Nat) [hc:bX P f] (c:Ct P f vs C Rs) (k: ∀ v H',(∃ H1,Rs v H1∧H'=H1++S)→(nk.contains i=false→HSub H' Hq)∧cQ P ops Q n Hq nk r (i+1) m (L.setIfInBounds i true) ((d,v)::F) H') (hi:ops[i]? =some ⟨some d,op,ty,ps,af,g⟩:=by exact rfl) (ho:op= .call { callee:= .value (.func f),args:=args.toArray,argTypes:=ts }:=by exact rfl) (hr:Region.ready .any ops L=[i]:=by kernel_rfl) (hg:kR ops F ⟨some d,op,ty,ps,af,g⟩:=by exact wt) (hd:Nat.blt d n=true:=by exact rfl) (hv:UD F args=some vs:=by exact rfl) (p:iE C H S:=by exact pca):cQ P ops Q n Hq nk r j (m+1) L F H:=aA i (gW (cZ op) hi rfl hr hg hd (kD ho c hv p) k)
variable {i:Nat}
theorem Oa (hi:ops[i]? =some ⟨some d,op,ty,ps,af,g⟩:=by exact rfl) (hr:Region.ready .any ops L=[i]:=by kernel_rfl) (hg:kR ops F ⟨some d,op,ty,ps,af,g⟩:=by exact wt) (hd:Nat.blt d n=true:=by exact rfl) (l:cJ P n ⟨some d,op,ty,ps,af,g⟩ F H K) (k: ∀ v H',K v H'→(nk.contains i=false→HSub H' Hq)∧cQ P ops Q n Hq nk r (i+1) m (L.setIfInBounds i true) ((d,v)::F) H'):cQ P ops Q n Hq nk r i (m+1) L F H:=gW (cZ op) hi rfl hr hg hd l k
theorem Ob (hi:ops[i]? =some ⟨none,op,ty,ps,af,g⟩:=by exact rfl) (hr:Region.ready .any ops L=[i]:=by kernel_rfl) (hg:kR ops F ⟨none,op,ty,ps,af,g⟩:=by exact wt) (l:cJ P n ⟨none,op,ty,ps,af,g⟩ F H K) (k: ∀ v H',K v H'→(nk.contains i=false→HSub H' Hq)∧cQ P ops Q n Hq nk r (i+1) m (L.setIfInBounds i true) F H'):cQ P ops Q n Hq nk r i (m+1) L F H:=CL (cZ op) hi rfl hr hg l k
theorem Oc (hi:ops[i]? =some ⟨some d,op,ty,ps,af,g⟩:=by exact rfl) (hg:kR ops F ⟨some d,op,ty,ps,af,g⟩:=by exact wt) (hd:Nat.blt d n=true:=by exact rfl) (l:cJ P n ⟨some d,op,ty,ps,af,g⟩ F H K) (k: ∀ v H',K v H'→(nk.contains i=false→HSub H' Hq)∧cQ P ops Q n Hq nk 1 0 m (L.setIfInBounds i true) ((d,v)::F) H'):JT P ops Q n Hq nk m L F H i:=tN 1 i hi hg hd l k
end
section
variable {P:Program} {n:Nat} {F:dF} {H R S:List Ent} {o:Oper} {x y:Operand} {v u z':Value}
theorem Ma {t e e' sz by' cnt:Nat} {agg:Bool} [ht:nH P t e] [hs:Ty P e agg sz by' z'] {α:Type} (f:α→List Value) (ys:List α) {news:List Value} (ho:o.op= .call { callee:= .builtin .append,args:= #[x,y],argTypes:= #[t,t] }) (hx:ev F x=some (.slice none 0 0):=by exact rfl) (hy:ev F y=some u:=by exact rfl) (q:bF (own u e' sz cnt news) H R:=by exact aN) (hn:news=flat f ys:=by rfl) (hc:cnt=ys.length:=by rfl) (hf: ∀ y,(f y).length=sz:=by intro _;rfl) (hf1: ∀ y, ∀ u∈f y,u.oneCell'=true:=by (first|exact UF|exact UG|exact UH|exact UI|exact zB|exact vF|exact IC|exact ID|exact zC|exact UJ|exact IF|exact JZ|exact xH|assumption)) (hsz:Nat.blt 0 sz=true:=by exact rfl) (hb:ys.length*by'≤140737488355328:=by simp only[List.length_cons,List.length_nil];omega) (h63:ys.length≤maxLen:=by (unfold maxLen);simp only[List.length_cons,List.length_nil];omega):
  cJ P n o F H fun r H'=> ∃ q' cap',r= .slice q' ys.length cap'∧H'=own (.slice q' ys.length cap') e sz ys.length (flat f ys)::R:=GN f ys ho hx hy q hn hc hf hf1 hsz hb h63
theorem Mb {t e e' sz by' m cnt:Nat} {agg:Bool} [ht:nH P t e] [hs:Ty P e agg sz by' z'] {α:Type} (f:α→List Value) (ys:List α) {zs:List α} {news:List Value} (ho:o.op= .call { callee:= .builtin .append,args:= #[x,y],argTypes:= #[t,t] }) (hx:ev F x=some v:=by exact rfl) (hy:ev F y=some u:=by exact rfl) (p:bF (own v e sz m (flat f zs)) H R:=by exact aN) (q:bF (own u e' sz cnt news) R S:=by exact aN) (hn:news=flat f ys:=by rfl) (hc:cnt=ys.length:=by rfl) (hm:m=zs.length:=by first|rfl|omega) (hf: ∀ y,(f y).length=sz:=by intro _;rfl) (hf1: ∀ y, ∀ u∈f y,u.oneCell'=true:=by (first|exact UF|exact UG|exact UH|exact UI|exact zB|exact vF|exact IC|exact ID|exact zC|exact UJ|exact IF|exact JZ|exact xH|assumption)) (hsz:Nat.blt 0 sz=true:=by exact rfl) (hb:(zs.length+ys.length)*by'≤140737488355328:=by simp only[List.length_cons,List.length_nil];omega) (h63:zs.length+ys.length≤maxLen:=by (unfold maxLen);simp only[List.length_cons,List.length_nil];omega):
  cJ P n o F H fun r H'=> ∃ q' cap',r= .slice q' (zs++ys).length cap'∧H'=own (.slice q' (zs++ys).length cap') e sz (zs++ys).length (flat f (zs++ys))::S:=tJ f ys ho hx hy p q hn hc hm hf hf1 hsz hb h63
end
theorem aZ {P Q:Prop} (q:Q) (h:Tk Q→P:=by intro h;(repeat' (first|refine Wa ?_|refine We ?_|fail));exact h.go):P:=h ⟨q⟩
theorem dN {P Q:Prop} (q:Q) (h:Tk Q→P:=by intro h;(repeat' (first|refine Wa ?_|refine aF ?_|fail));exact h.go):P:=h ⟨q⟩
theorem eU {P Q:Prop} (q:Q) (h:Tk Q→P:=by intro h;(repeat' (first|refine Wa ?_|fail));exact h.go):P:=h ⟨q⟩
theorem gX {P Q:Prop} (q:Q) (h:Tk Q→P:=by intro h;(repeat' (first|refine Wk ?_|refine Wz ?_|fail));exact h.go):P:=h ⟨q⟩
theorem pT {P Q:Prop} (q:Q) (h:Tk Q→P:=by intro h;(repeat' (first|refine Wa ?_|refine Wk ?_|fail));exact h.go):P:=h ⟨q⟩
theorem KA {P Q:Prop} (q:Q) (h:Tk Q→P:=by intro h;(repeat' (first|refine Wa ?_|refine Wk ?_|refine We ?_|fail));exact h.go):P:=h ⟨q⟩
theorem Yw7 {P Q:Prop} (q:Q) (h:Tk Q→P:=by intro h;(repeat' (first|refine Wa ?_|refine Wk ?_|refine We ?_|refine Wz ?_|fail));exact h.go):P:=h ⟨q⟩
theorem Yw8 {P Q:Prop} (q:Q) (h:Tk Q→P:=by intro h;(repeat' (first|refine Wk ?_|fail));exact h.go):P:=h ⟨q⟩
end Go.Proofs.YtbjalbcdbgcgdaaGreat.sl
namespace Go.Proofs.YtbjalbcdbgcgdaaGreat
open Go.RowKit bG sl
theorem Ye {X Y P Q:Prop} (a:X) (b:Y) (q:Q) (h:X→Y→Tk Q→P:=by intro a b h;refine adA a b rfl rfl fun Fr=> ?_;dsimp only[List.cons_append,List.nil_append,ini,Nat.reduceAdd];revert Fr;exact h.go):P:=h a b ⟨q⟩
theorem Za {P:Prop} (h:P:=by simp only[List.length_cons,List.length_nil,Nat.reduceAdd];rfl):P:=h
theorem Zb {P:Prop} (h:P:=by (first|exact HSub.kC (by exact pca))):P:=h
theorem Zc {P:Prop} (h:P:=by (first|exact UF|exact UG|exact UH|exact UI|exact zB|exact vF|exact IC|exact ID|exact zC|exact UJ|exact IF|exact JZ|exact xH|assumption)):P:=h
theorem Zd {P:Prop} (h:P:=by exact oA rfl rfl rfl (by exact aN) (by intro _;rfl) (by (first|exact UF|exact UG|exact UH|exact UI|exact zB|exact vF|exact IC|exact ID|exact zC|exact UJ|exact IF|exact JZ|exact xH|assumption)) rfl (by omega) (by (unfold maxLen);omega)):P:=h
theorem Ze {P:Prop} (h:P:=by first|rfl|omega):P:=h
theorem Zf {P:Prop} (h:P:=by first|exact cX rfl rfl rfl (by exact aN) rfl rfl rfl (by exact akQ)|exact bW rfl rfl rfl rfl (by exact aN) rfl (by exact akP)):P:=h
theorem Zg {P:Prop} (h:P:=by (unfold maxLen);omega):P:=h
theorem Zh {P:Prop} (h:P:=by unfold maxLen;omega):P:=h
theorem Zi {P:Prop} (h:P:=by rw[List.length_append];omega):P:=h
theorem Zj {P:Prop} (h:P:=by dsimp only;omega):P:=h
theorem Zk {P:Prop} (h:P:=by rw[List.length_drop];omega):P:=h
theorem Zl {P:Prop} (h:P:=by rw[hE];decide):P:=h
theorem Zm {P:Prop} (h:P:=by unfold nA;dsimp only;omega):P:=h
theorem Zn {P:Prop} (h:P:=by simp only[List.length_append];omega):P:=h
theorem Zo {P:Prop} (h:P:=by first|exact fun _=>(by exact iS)|exact fun h=>absurd h (by decide)):P:=h
theorem Zp {P:Prop} (h:P:=by exact Nat.zero_le _):P:=h
theorem Zq {P:Prop} (h:P:=by first|omega|(dsimp only;omega)|dsimp only):P:=h
theorem Zt {P:Prop} (h:P:=by rw[eC];omega):P:=h
theorem Zu {P:Prop} (h:P:=by simp only[List.length_map];omega):P:=h
theorem Zv {P:Prop} (h:P:=by exact⟨by simp [*],(Below.refl _ _).alloc (Nat.le_refl _) _⟩):P:=h
end Go.Proofs.YtbjalbcdbgcgdaaGreat
namespace Go.Proofs.YtbjalbcdbgcgdaaGreat.sl
open Go.RowKit bG
set_option maxRecDepth 100000
instance:Ty Tryz.prog 3 false 1 8 (.int .i64 0):=⟨by kernel_rfl,by rfl⟩
instance:JN Tryz.prog 3 .i64:=⟨by kernel_rfl⟩
instance:Ty Tryz.prog 4 false 1 1 (.bool false):=⟨by kernel_rfl,by rfl⟩
instance:Ty Tryz.prog 5 false 1 1 (.int .u8 0):=⟨by kernel_rfl,by rfl⟩
instance:JN Tryz.prog 5 .u8:=⟨by kernel_rfl⟩
instance:Ty Tryz.prog 9 false 1 16 (.string ⟨#[]⟩):=⟨by kernel_rfl,by rfl⟩
instance:Zr Tryz.prog 9 [.string ⟨#[]⟩]:=⟨_,_,_,_,inferInstance,rfl⟩
instance:yV Tryz.prog 9:=⟨by kernel_rfl⟩
instance:JN Tryz.prog 21 .i32:=⟨by kernel_rfl⟩
instance:Ty Tryz.prog 23 false 1 24 (.slice none 0 0):=⟨by kernel_rfl,by rfl⟩
instance:nH Tryz.prog 23 3:=⟨by kernel_rfl⟩
instance:Ty Tryz.prog 27 true 6 72 (.agg #[.int .i64 0, .string ⟨#[]⟩, .string ⟨#[]⟩, .int .i64 0, .int .i64 0, .string ⟨#[]⟩]):=⟨by kernel_rfl,by rfl⟩
instance:Zr Tryz.prog 27 [.int .i64 0, .string ⟨#[]⟩, .string ⟨#[]⟩, .int .i64 0, .int .i64 0, .string ⟨#[]⟩]:=⟨_,_,_,_,inferInstance,rfl⟩
instance:jV Tryz.prog 27 0 0 1:=⟨by kernel_rfl,by decide⟩
instance:jV Tryz.prog 27 1 1 1:=⟨by kernel_rfl,by decide⟩
instance:jV Tryz.prog 27 3 3 1:=⟨by kernel_rfl,by decide⟩
instance:jV Tryz.prog 27 5 5 1:=⟨by kernel_rfl,by decide⟩
instance:GO Tryz.prog 27 (.agg #[.int .i64 0, .string ⟨#[]⟩, .string ⟨#[]⟩, .int .i64 0, .int .i64 0, .string ⟨#[]⟩]) [(0,1),(1,1),(2,1),(3,1),(4,1),(5,1)]:=⟨by kernel_rfl⟩
instance:Ty Tryz.prog 28 false 1 8 (.int .i64 0):=⟨by kernel_rfl,by rfl⟩
instance:Zr Tryz.prog 28 [.int .i64 0]:=⟨_,_,_,_,inferInstance,rfl⟩
instance:Ty Tryz.prog 29 false 1 24 (.slice none 0 0):=⟨by kernel_rfl,by rfl⟩
instance:Zr Tryz.prog 29 [.slice none 0 0]:=⟨_,_,_,_,inferInstance,rfl⟩
instance:nH Tryz.prog 29 9:=⟨by kernel_rfl⟩
instance:Ty Tryz.prog 31 true 5 64 (.agg #[.int .i64 0, .string ⟨#[]⟩, .int .i64 0, .int .i64 0, .slice none 0 0]):=⟨by kernel_rfl,by rfl⟩
instance:Zr Tryz.prog 31 [.int .i64 0, .string ⟨#[]⟩, .int .i64 0, .int .i64 0, .slice none 0 0]:=⟨_,_,_,_,inferInstance,rfl⟩
instance:jV Tryz.prog 31 0 0 1:=⟨by kernel_rfl,by decide⟩
instance:GO Tryz.prog 31 (.agg #[.int .i64 0, .string ⟨#[]⟩, .int .i64 0, .int .i64 0, .slice none 0 0]) [(0,1),(1,1),(2,1),(3,1),(4,1)]:=⟨by kernel_rfl⟩
instance:Ty Tryz.prog 32 false 1 8 (.pointer none):=⟨by kernel_rfl,by rfl⟩
instance:Ty Tryz.prog 49 false 1 24 (.slice none 0 0):=⟨by kernel_rfl,by rfl⟩
instance:nH Tryz.prog 49 130:=⟨by kernel_rfl⟩
instance:Ty Tryz.prog 51 true 2 48 (.agg #[.slice none 0 0, .slice none 0 0]):=⟨by kernel_rfl,by rfl⟩
instance:Zr Tryz.prog 51 [.slice none 0 0, .slice none 0 0]:=⟨_,_,_,_,inferInstance,rfl⟩
instance:jV Tryz.prog 51 0 0 1:=⟨by kernel_rfl,by decide⟩
instance:jV Tryz.prog 51 1 1 1:=⟨by kernel_rfl,by decide⟩
instance:GO Tryz.prog 51 (.agg #[.slice none 0 0, .slice none 0 0]) [(0,1),(1,1)]:=⟨by kernel_rfl⟩
instance:Ty Tryz.prog 60 false 1 24 (.slice none 0 0):=⟨by kernel_rfl,by rfl⟩
instance:nH Tryz.prog 60 87:=⟨by kernel_rfl⟩
instance:Ty Tryz.prog 67 true 2 32 (.agg #[.int .i64 0, .slice none 0 0]):=⟨by kernel_rfl,by rfl⟩
instance:Zr Tryz.prog 67 [.int .i64 0, .slice none 0 0]:=⟨_,_,_,_,inferInstance,rfl⟩
instance:jV Tryz.prog 67 0 0 1:=⟨by kernel_rfl,by decide⟩
instance:jV Tryz.prog 67 1 1 1:=⟨by kernel_rfl,by decide⟩
instance:GO Tryz.prog 67 (.agg #[.int .i64 0, .slice none 0 0]) [(0,1),(1,1)]:=⟨by kernel_rfl⟩
instance:Ty Tryz.prog 71 false 1 24 (.slice none 0 0):=⟨by kernel_rfl,by rfl⟩
instance:nH Tryz.prog 71 77:=⟨by kernel_rfl⟩
instance:Ty Tryz.prog 73 true 2 48 (.agg #[.slice none 0 0, .slice none 0 0]):=⟨by kernel_rfl,by rfl⟩
instance:Zr Tryz.prog 73 [.slice none 0 0, .slice none 0 0]:=⟨_,_,_,_,inferInstance,rfl⟩
instance:jV Tryz.prog 73 0 0 1:=⟨by kernel_rfl,by decide⟩
instance:jV Tryz.prog 73 1 1 1:=⟨by kernel_rfl,by decide⟩
instance:GO Tryz.prog 73 (.agg #[.slice none 0 0, .slice none 0 0]) [(0,1),(1,1)]:=⟨by kernel_rfl⟩
instance:Ty Tryz.prog 77 true 2 16 (.agg #[.int .i64 0, .int .i64 0]):=⟨by kernel_rfl,by rfl⟩
instance:Zr Tryz.prog 77 [.int .i64 0, .int .i64 0]:=⟨_,_,_,_,inferInstance,rfl⟩
instance:jV Tryz.prog 77 0 0 1:=⟨by kernel_rfl,by decide⟩
instance:jV Tryz.prog 77 1 1 1:=⟨by kernel_rfl,by decide⟩
instance:GO Tryz.prog 77 (.agg #[.int .i64 0, .int .i64 0]) [(0,1),(1,1)]:=⟨by kernel_rfl⟩
instance:Ty Tryz.prog 79 true 4 48 (.agg #[.int .i64 0, .int .i64 0, .int .i64 0, .slice none 0 0]):=⟨by kernel_rfl,by rfl⟩
instance:Zr Tryz.prog 79 [.int .i64 0, .int .i64 0, .int .i64 0, .slice none 0 0]:=⟨_,_,_,_,inferInstance,rfl⟩
instance:jV Tryz.prog 79 0 0 1:=⟨by kernel_rfl,by decide⟩
instance:jV Tryz.prog 79 1 1 1:=⟨by kernel_rfl,by decide⟩
instance:jV Tryz.prog 79 2 2 1:=⟨by kernel_rfl,by decide⟩
instance:jV Tryz.prog 79 3 3 1:=⟨by kernel_rfl,by decide⟩
instance:GO Tryz.prog 79 (.agg #[.int .i64 0, .int .i64 0, .int .i64 0, .slice none 0 0]) [(0,1),(1,1),(2,1),(3,1)]:=⟨by kernel_rfl⟩
instance:Ty Tryz.prog 87 true 3 32 (.agg #[.int .i64 0, .int .i64 0, .string ⟨#[]⟩]):=⟨by kernel_rfl,by rfl⟩
instance:Zr Tryz.prog 87 [.int .i64 0, .int .i64 0, .string ⟨#[]⟩]:=⟨_,_,_,_,inferInstance,rfl⟩
instance:jV Tryz.prog 87 0 0 1:=⟨by kernel_rfl,by decide⟩
instance:jV Tryz.prog 87 1 1 1:=⟨by kernel_rfl,by decide⟩
instance:jV Tryz.prog 87 2 2 1:=⟨by kernel_rfl,by decide⟩
instance:GO Tryz.prog 87 (.agg #[.int .i64 0, .int .i64 0, .string ⟨#[]⟩]) [(0,1),(1,1),(2,1)]:=⟨by kernel_rfl⟩
instance:Ty Tryz.prog 97 true 2 16 (.agg #[.int .i64 0, .int .i64 0]):=⟨by kernel_rfl,by rfl⟩
instance:Zr Tryz.prog 97 [.int .i64 0, .int .i64 0]:=⟨_,_,_,_,inferInstance,rfl⟩
instance:jV Tryz.prog 97 0 0 1:=⟨by kernel_rfl,by decide⟩
instance:jV Tryz.prog 97 1 1 1:=⟨by kernel_rfl,by decide⟩
instance:GO Tryz.prog 97 (.agg #[.int .i64 0, .int .i64 0]) [(0,1),(1,1)]:=⟨by kernel_rfl⟩
instance:Ty Tryz.prog 99 true 4 32 (.agg #[.int .i64 0, .int .i64 0, .int .i64 0, .bool false]):=⟨by kernel_rfl,by rfl⟩
instance:Zr Tryz.prog 99 [.int .i64 0, .int .i64 0, .int .i64 0, .bool false]:=⟨_,_,_,_,inferInstance,rfl⟩
instance:jV Tryz.prog 99 0 0 2:=⟨by kernel_rfl,by decide⟩
instance:jV Tryz.prog 99 1 2 1:=⟨by kernel_rfl,by decide⟩
instance:jV Tryz.prog 99 2 3 1:=⟨by kernel_rfl,by decide⟩
instance:GO Tryz.prog 99 (.agg #[.int .i64 0, .int .i64 0, .int .i64 0, .bool false]) [(0,2),(2,1),(3,1)]:=⟨by kernel_rfl⟩
instance:Ty Tryz.prog 102 true 33 264 (.agg #[.pointer none, .int .i64 0, .int .i64 0, .int .i64 0, .bool false, .int .i64 0, .int .i64 0, .int .i64 0, .bool false, .int .i64 0, .int .i64 0, .int .i64 0, .bool false, .int .i64 0, .int .i64 0, .int .i64 0, .bool false, .int .i64 0, .int .i64 0, .int .i64 0, .bool false, .int .i64 0, .int .i64 0, .int .i64 0, .bool false, .int .i64 0, .int .i64 0, .int .i64 0, .bool false, .int .i64 0, .int .i64 0, .int .i64 0, .bool false]):=⟨by kernel_rfl,by rfl⟩
instance:Zr Tryz.prog 102 [.pointer none, .int .i64 0, .int .i64 0, .int .i64 0, .bool false, .int .i64 0, .int .i64 0, .int .i64 0, .bool false, .int .i64 0, .int .i64 0, .int .i64 0, .bool false, .int .i64 0, .int .i64 0, .int .i64 0, .bool false, .int .i64 0, .int .i64 0, .int .i64 0, .bool false, .int .i64 0, .int .i64 0, .int .i64 0, .bool false, .int .i64 0, .int .i64 0, .int .i64 0, .bool false, .int .i64 0, .int .i64 0, .int .i64 0, .bool false]:=⟨_,_,_,_,inferInstance,rfl⟩
instance:jV Tryz.prog 102 0 0 1:=⟨by kernel_rfl,by decide⟩
instance:jV Tryz.prog 102 1 1 32:=⟨by kernel_rfl,by decide⟩
instance:GO Tryz.prog 102 (.agg #[.pointer none, .int .i64 0, .int .i64 0, .int .i64 0, .bool false, .int .i64 0, .int .i64 0, .int .i64 0, .bool false, .int .i64 0, .int .i64 0, .int .i64 0, .bool false, .int .i64 0, .int .i64 0, .int .i64 0, .bool false, .int .i64 0, .int .i64 0, .int .i64 0, .bool false, .int .i64 0, .int .i64 0, .int .i64 0, .bool false, .int .i64 0, .int .i64 0, .int .i64 0, .bool false, .int .i64 0, .int .i64 0, .int .i64 0, .bool false]) [(0,1),(1,32)]:=⟨by kernel_rfl⟩
instance:Ty Tryz.prog 118 true 3 56 (.agg #[.int .i64 0, .slice none 0 0, .slice none 0 0]):=⟨by kernel_rfl,by rfl⟩
instance:Zr Tryz.prog 118 [.int .i64 0, .slice none 0 0, .slice none 0 0]:=⟨_,_,_,_,inferInstance,rfl⟩
instance:jV Tryz.prog 118 0 0 1:=⟨by kernel_rfl,by decide⟩
instance:jV Tryz.prog 118 1 1 2:=⟨by kernel_rfl,by decide⟩
instance:GO Tryz.prog 118 (.agg #[.int .i64 0, .slice none 0 0, .slice none 0 0]) [(0,1),(1,2)]:=⟨by kernel_rfl⟩
instance:Ty Tryz.prog 130 true 2 24 (.agg #[.int .i64 0, .string ⟨#[]⟩]):=⟨by kernel_rfl,by rfl⟩
instance:Zr Tryz.prog 130 [.int .i64 0, .string ⟨#[]⟩]:=⟨_,_,_,_,inferInstance,rfl⟩
instance:jV Tryz.prog 130 0 0 1:=⟨by kernel_rfl,by decide⟩
instance:jV Tryz.prog 130 1 1 1:=⟨by kernel_rfl,by decide⟩
instance:GO Tryz.prog 130 (.agg #[.int .i64 0, .string ⟨#[]⟩]) [(0,1),(1,1)]:=⟨by kernel_rfl⟩
instance:jV Tryz.prog 134 0 0 2:=⟨by kernel_rfl,by decide⟩
instance:jV Tryz.prog 134 1 2 2:=⟨by kernel_rfl,by decide⟩
instance:jV Tryz.prog 134 2 4 1:=⟨by kernel_rfl,by decide⟩
instance:jV Tryz.prog 134 3 5 1:=⟨by kernel_rfl,by decide⟩
instance:jV Tryz.prog 134 4 6 1:=⟨by kernel_rfl,by decide⟩
instance:jV Tryz.prog 134 5 7 1:=⟨by kernel_rfl,by decide⟩
instance:Ty Tryz.prog 136 true 8 160 (.agg #[.slice none 0 0, .slice none 0 0, .slice none 0 0, .slice none 0 0, .int .i64 0, .int .i64 0, .slice none 0 0, .slice none 0 0]):=⟨by kernel_rfl,by rfl⟩
instance:Zr Tryz.prog 136 [.slice none 0 0, .slice none 0 0, .slice none 0 0, .slice none 0 0, .int .i64 0, .int .i64 0, .slice none 0 0, .slice none 0 0]:=⟨_,_,_,_,inferInstance,rfl⟩
instance:jV Tryz.prog 136 0 0 8:=⟨by kernel_rfl,by decide⟩
instance:GO Tryz.prog 136 (.agg #[.slice none 0 0, .slice none 0 0, .slice none 0 0, .slice none 0 0, .int .i64 0, .int .i64 0, .slice none 0 0, .slice none 0 0]) [(0,8)]:=⟨by kernel_rfl⟩
instance:nH Tryz.prog 161 175:=⟨by kernel_rfl⟩
instance:JN Tryz.prog 165 .u64:=⟨by kernel_rfl⟩
instance:Ty Tryz.prog 175 true 4 40 (.agg #[.int .i64 0, .int .i64 0, .int .i64 0, .string ⟨#[]⟩]):=⟨by kernel_rfl,by rfl⟩
instance:Zr Tryz.prog 175 [.int .i64 0, .int .i64 0, .int .i64 0, .string ⟨#[]⟩]:=⟨_,_,_,_,inferInstance,rfl⟩
instance:jV Tryz.prog 175 0 0 1:=⟨by kernel_rfl,by decide⟩
instance:jV Tryz.prog 175 1 1 1:=⟨by kernel_rfl,by decide⟩
instance:jV Tryz.prog 175 2 2 1:=⟨by kernel_rfl,by decide⟩
instance:jV Tryz.prog 175 3 3 1:=⟨by kernel_rfl,by decide⟩
instance:GO Tryz.prog 175 (.agg #[.int .i64 0, .int .i64 0, .int .i64 0, .string ⟨#[]⟩]) [(0,1),(1,1),(2,1),(3,1)]:=⟨by kernel_rfl⟩
instance:nH Tryz.prog 200 204:=⟨by kernel_rfl⟩
instance:Ty Tryz.prog 204 true 2 24 (.agg #[.string ⟨#[]⟩, .int .i64 0]):=⟨by kernel_rfl,by rfl⟩
instance:Zr Tryz.prog 204 [.string ⟨#[]⟩, .int .i64 0]:=⟨_,_,_,_,inferInstance,rfl⟩
instance:jV Tryz.prog 204 0 0 1:=⟨by kernel_rfl,by decide⟩
instance:jV Tryz.prog 204 1 1 1:=⟨by kernel_rfl,by decide⟩
instance:GO Tryz.prog 204 (.agg #[.string ⟨#[]⟩, .int .i64 0]) [(0,1),(1,1)]:=⟨by kernel_rfl⟩
instance:nH Tryz.prog 219 237:=⟨by kernel_rfl⟩
instance:Ty Tryz.prog 235 false 1 24 (.slice none 0 0):=⟨by kernel_rfl,by rfl⟩
instance:nH Tryz.prog 235 289:=⟨by kernel_rfl⟩
instance:Ty Tryz.prog 237 true 7 88 (.agg #[.int .i64 0, .int .i64 0, .int .i64 0, .int .i64 0, .slice none 0 0, .slice none 0 0, .bool false]):=⟨by kernel_rfl,by rfl⟩
instance:Zr Tryz.prog 237 [.int .i64 0, .int .i64 0, .int .i64 0, .int .i64 0, .slice none 0 0, .slice none 0 0, .bool false]:=⟨_,_,_,_,inferInstance,rfl⟩
instance:jV Tryz.prog 237 0 0 1:=⟨by kernel_rfl,by decide⟩
instance:jV Tryz.prog 237 1 1 4:=⟨by kernel_rfl,by decide⟩
instance:jV Tryz.prog 237 2 5 1:=⟨by kernel_rfl,by decide⟩
instance:jV Tryz.prog 237 3 6 1:=⟨by kernel_rfl,by decide⟩
instance:GO Tryz.prog 237 (.agg #[.int .i64 0, .int .i64 0, .int .i64 0, .int .i64 0, .slice none 0 0, .slice none 0 0, .bool false]) [(0,1),(1,4),(5,1),(6,1)]:=⟨by kernel_rfl⟩
instance:Ty Tryz.prog 289 true 4 40 (.agg #[.int .i64 0, .int .i64 0, .string ⟨#[]⟩, .bool false]):=⟨by kernel_rfl,by rfl⟩
instance:Zr Tryz.prog 289 [.int .i64 0, .int .i64 0, .string ⟨#[]⟩, .bool false]:=⟨_,_,_,_,inferInstance,rfl⟩
instance:jV Tryz.prog 289 0 0 2:=⟨by kernel_rfl,by decide⟩
instance:jV Tryz.prog 289 1 2 1:=⟨by kernel_rfl,by decide⟩
instance:jV Tryz.prog 289 2 3 1:=⟨by kernel_rfl,by decide⟩
instance:GO Tryz.prog 289 (.agg #[.int .i64 0, .int .i64 0, .string ⟨#[]⟩, .bool false]) [(0,2),(2,1),(3,1)]:=⟨by kernel_rfl⟩
instance:Ty Tryz.prog 292 false 1 24 (.slice none 0 0):=⟨by kernel_rfl,by rfl⟩
instance:nH Tryz.prog 292 5:=⟨by kernel_rfl⟩
instance:Ty Tryz.prog 306 true 2 24 (.agg #[.string ⟨#[]⟩, .bool false]):=⟨by kernel_rfl,by rfl⟩
instance:Zr Tryz.prog 306 [.string ⟨#[]⟩, .bool false]:=⟨_,_,_,_,inferInstance,rfl⟩
instance:jV Tryz.prog 306 0 0 1:=⟨by kernel_rfl,by decide⟩
instance:jV Tryz.prog 306 1 1 1:=⟨by kernel_rfl,by decide⟩
instance:GO Tryz.prog 306 (.agg #[.string ⟨#[]⟩, .bool false]) [(0,1),(1,1)]:=⟨by kernel_rfl⟩
instance:nH Tryz.prog 308 356:=⟨by kernel_rfl⟩
instance:Ty Tryz.prog 313 true 2 32 (.agg #[.pointer none, .slice none 0 0]):=⟨by kernel_rfl,by rfl⟩
instance:Zr Tryz.prog 313 [.pointer none, .slice none 0 0]:=⟨_,_,_,_,inferInstance,rfl⟩
instance:jV Tryz.prog 313 1 1 1:=⟨by kernel_rfl,by decide⟩
instance:JN Tryz.prog 322 .u32:=⟨by kernel_rfl⟩
instance:JN Tryz.prog 330 .u64:=⟨by kernel_rfl⟩
instance:Ty Tryz.prog 351 true 49 408 (.agg #[.slice none 0 0, .int .i64 0, .int .i64 0, .int .i64 0, .int .i64 0, .int .i64 0, .int .i64 0, .int .i64 0, .int .i64 0, .int .i64 0, .int .i64 0, .int .i64 0, .int .i64 0, .int .i64 0, .int .i64 0, .int .i64 0, .int .i64 0, .int .i64 0, .int .i64 0, .int .i64 0, .int .i64 0, .int .i64 0, .int .i64 0, .int .i64 0, .int .i64 0, .int .i64 0, .int .i64 0, .int .i64 0, .int .i64 0, .int .i64 0, .int .i64 0, .int .i64 0, .int .i64 0, .int .i64 0, .int .i64 0, .int .i64 0, .int .i64 0, .int .i64 0, .int .i64 0, .int .i64 0, .int .i64 0, .int .i64 0, .int .i64 0, .int .i64 0, .int .i64 0, .int .i64 0, .int .i64 0, .int .i64 0, .int .i64 0]):=⟨by kernel_rfl,by rfl⟩
instance:Zr Tryz.prog 351 [.slice none 0 0, .int .i64 0, .int .i64 0, .int .i64 0, .int .i64 0, .int .i64 0, .int .i64 0, .int .i64 0, .int .i64 0, .int .i64 0, .int .i64 0, .int .i64 0, .int .i64 0, .int .i64 0, .int .i64 0, .int .i64 0, .int .i64 0, .int .i64 0, .int .i64 0, .int .i64 0, .int .i64 0, .int .i64 0, .int .i64 0, .int .i64 0, .int .i64 0, .int .i64 0, .int .i64 0, .int .i64 0, .int .i64 0, .int .i64 0, .int .i64 0, .int .i64 0, .int .i64 0, .int .i64 0, .int .i64 0, .int .i64 0, .int .i64 0, .int .i64 0, .int .i64 0, .int .i64 0, .int .i64 0, .int .i64 0, .int .i64 0, .int .i64 0, .int .i64 0, .int .i64 0, .int .i64 0, .int .i64 0, .int .i64 0]:=⟨_,_,_,_,inferInstance,rfl⟩
instance:jV Tryz.prog 351 0 0 1:=⟨by kernel_rfl,by decide⟩
instance:jV Tryz.prog 351 1 1 16:=⟨by kernel_rfl,by decide⟩
instance:jV Tryz.prog 351 2 17 16:=⟨by kernel_rfl,by decide⟩
instance:jV Tryz.prog 351 3 33 16:=⟨by kernel_rfl,by decide⟩
instance:Ty Tryz.prog 356 true 3 24 (.agg #[.int .i64 0, .int .i64 0, .int .u8 0]):=⟨by kernel_rfl,by rfl⟩
instance:Zr Tryz.prog 356 [.int .i64 0, .int .i64 0, .int .u8 0]:=⟨_,_,_,_,inferInstance,rfl⟩
instance:jV Tryz.prog 356 0 0 1:=⟨by kernel_rfl,by decide⟩
instance:jV Tryz.prog 356 1 1 1:=⟨by kernel_rfl,by decide⟩
instance:jV Tryz.prog 356 2 2 1:=⟨by kernel_rfl,by decide⟩
instance:GO Tryz.prog 356 (.agg #[.int .i64 0, .int .i64 0, .int .u8 0]) [(0,1),(1,1),(2,1)]:=⟨by kernel_rfl⟩
instance:nH Tryz.prog 362 23:=⟨by kernel_rfl⟩
instance:nH Tryz.prog 390 394:=⟨by kernel_rfl⟩
instance:Ty Tryz.prog 394 true 2 16 (.agg #[.int .u64 0, .int .i64 0]):=⟨by kernel_rfl,by rfl⟩
instance:Zr Tryz.prog 394 [.int .u64 0, .int .i64 0]:=⟨_,_,_,_,inferInstance,rfl⟩
instance:GO Tryz.prog 394 (.agg #[.int .u64 0, .int .i64 0]) [(0,1),(1,1)]:=⟨by kernel_rfl⟩
instance:Mp Tryz.prog 431 433 23:=⟨by kernel_rfl⟩
instance:Ty Tryz.prog 433 true 3 3 (.agg #[.int .u8 0, .int .u8 0, .int .u8 0]):=⟨by kernel_rfl,by rfl⟩
instance:Zr Tryz.prog 433 [.int .u8 0, .int .u8 0, .int .u8 0]:=⟨_,_,_,_,inferInstance,rfl⟩
instance:nH Tryz.prog 435 437:=⟨by kernel_rfl⟩
instance:Ty Tryz.prog 437 true 2 32 (.agg #[.int .i64 0, .slice none 0 0]):=⟨by kernel_rfl,by rfl⟩
instance:Zr Tryz.prog 437 [.int .i64 0, .slice none 0 0]:=⟨_,_,_,_,inferInstance,rfl⟩
instance:jV Tryz.prog 437 0 0 1:=⟨by kernel_rfl,by decide⟩
instance:jV Tryz.prog 437 1 1 1:=⟨by kernel_rfl,by decide⟩
instance:GO Tryz.prog 437 (.agg #[.int .i64 0, .slice none 0 0]) [(0,1),(1,1)]:=⟨by kernel_rfl⟩
instance:bX Tryz.prog 15:=⟨by kernel_rfl⟩
instance:bX Tryz.prog 40:=⟨by kernel_rfl⟩
instance:bX Tryz.prog 41:=⟨by kernel_rfl⟩
instance:bX Tryz.prog 42:=⟨by kernel_rfl⟩
instance:bX Tryz.prog 43:=⟨by kernel_rfl⟩
instance:bX Tryz.prog 44:=⟨by kernel_rfl⟩
instance:bX Tryz.prog 45:=⟨by kernel_rfl⟩
instance:bX Tryz.prog 48:=⟨by kernel_rfl⟩
instance:bX Tryz.prog 57:=⟨by kernel_rfl⟩
instance:bX Tryz.prog 58:=⟨by kernel_rfl⟩
instance:bX Tryz.prog 61:=⟨by kernel_rfl⟩
instance:bX Tryz.prog 62:=⟨by kernel_rfl⟩
instance:bX Tryz.prog 63:=⟨by kernel_rfl⟩
instance:bX Tryz.prog 65:=⟨by kernel_rfl⟩
instance:bX Tryz.prog 66:=⟨by kernel_rfl⟩
instance:bX Tryz.prog 68:=⟨by kernel_rfl⟩
instance:bX Tryz.prog 70:=⟨by kernel_rfl⟩
instance:bX Tryz.prog 72:=⟨by kernel_rfl⟩
instance:bX Tryz.prog 73:=⟨by kernel_rfl⟩
instance:bX Tryz.prog 78:=⟨by kernel_rfl⟩
instance:bX Tryz.prog 79:=⟨by kernel_rfl⟩
instance:bX Tryz.prog 85:=⟨by kernel_rfl⟩
instance:bX Tryz.prog 101:=⟨by kernel_rfl⟩
instance:bX Tryz.prog 102:=⟨by kernel_rfl⟩
instance:bX Tryz.prog 105:=⟨by kernel_rfl⟩
instance:bX Tryz.prog 106:=⟨by kernel_rfl⟩
instance:bX Tryz.prog 110:=⟨by kernel_rfl⟩
instance:bX Tryz.prog 111:=⟨by kernel_rfl⟩
instance:bX Tryz.prog 112:=⟨by kernel_rfl⟩
instance:bX Tryz.prog 127:=⟨by kernel_rfl⟩
instance:bX Tryz.prog 128:=⟨by kernel_rfl⟩
instance:bX Tryz.prog 129:=⟨by kernel_rfl⟩
instance:bX Tryz.prog 130:=⟨by kernel_rfl⟩
instance:bX Tryz.prog 133:=⟨by kernel_rfl⟩
instance:bX Tryz.prog 134:=⟨by kernel_rfl⟩
instance:bX Tryz.prog 135:=⟨by kernel_rfl⟩
instance:bX Tryz.prog 137:=⟨by kernel_rfl⟩
instance:bX Tryz.prog 138:=⟨by kernel_rfl⟩
instance:bX Tryz.prog 141:=⟨by kernel_rfl⟩
instance:bX Tryz.prog 142:=⟨by kernel_rfl⟩
instance:bX Tryz.prog 143:=⟨by kernel_rfl⟩
instance:bX Tryz.prog 144:=⟨by kernel_rfl⟩
instance:bX Tryz.prog 145:=⟨by kernel_rfl⟩
instance:bX Tryz.prog 146:=⟨by kernel_rfl⟩
instance:bX Tryz.prog 147:=⟨by kernel_rfl⟩
instance:bX Tryz.prog 148:=⟨by kernel_rfl⟩
instance:bX Tryz.prog 149:=⟨by kernel_rfl⟩
instance:bX Tryz.prog 150:=⟨by kernel_rfl⟩
instance:bX Tryz.prog 152:=⟨by kernel_rfl⟩
instance:bX Tryz.prog 153:=⟨by kernel_rfl⟩
instance:bX Tryz.prog 154:=⟨by kernel_rfl⟩
instance:bX Tryz.prog 155:=⟨by kernel_rfl⟩
instance:bX Tryz.prog 157:=⟨by kernel_rfl⟩
instance:bX Tryz.prog 159:=⟨by kernel_rfl⟩
instance:bX Tryz.prog 160:=⟨by kernel_rfl⟩
instance:bX Tryz.prog 161:=⟨by kernel_rfl⟩
instance:bX Tryz.prog 163:=⟨by kernel_rfl⟩
instance:bX Tryz.prog 164:=⟨by kernel_rfl⟩
instance:bX Tryz.prog 173:=⟨by kernel_rfl⟩
instance:bX Tryz.prog 174:=⟨by kernel_rfl⟩
instance:bX Tryz.prog 175:=⟨by kernel_rfl⟩
instance:bX Tryz.prog 178:=⟨by kernel_rfl⟩
instance:bX Tryz.prog 179:=⟨by kernel_rfl⟩
instance:bX Tryz.prog 180:=⟨by kernel_rfl⟩
instance:bX Tryz.prog 192:=⟨by kernel_rfl⟩
instance:bX Tryz.prog 193:=⟨by kernel_rfl⟩
instance:bX Tryz.prog 194:=⟨by kernel_rfl⟩
instance:bX Tryz.prog 195:=⟨by kernel_rfl⟩
instance:bX Tryz.prog 196:=⟨by kernel_rfl⟩
instance:bX Tryz.prog 200:=⟨by kernel_rfl⟩
instance:bX Tryz.prog 201:=⟨by kernel_rfl⟩
instance:bX Tryz.prog 202:=⟨by kernel_rfl⟩
instance:bX Tryz.prog 203:=⟨by kernel_rfl⟩
instance:bX Tryz.prog 204:=⟨by kernel_rfl⟩
instance:bX Tryz.prog 205:=⟨by kernel_rfl⟩
instance:bX Tryz.prog 209:=⟨by kernel_rfl⟩
instance:bX Tryz.prog 210:=⟨by kernel_rfl⟩
instance:bX Tryz.prog 211:=⟨by kernel_rfl⟩
instance:bX Tryz.prog 212:=⟨by kernel_rfl⟩
instance:bX Tryz.prog 213:=⟨by kernel_rfl⟩
instance:bX Tryz.prog 214:=⟨by kernel_rfl⟩
instance:bX Tryz.prog 215:=⟨by kernel_rfl⟩
instance:bX Tryz.prog 216:=⟨by kernel_rfl⟩
instance:bX Tryz.prog 217:=⟨by kernel_rfl⟩
instance:bX Tryz.prog 218:=⟨by kernel_rfl⟩
instance:bX Tryz.prog 219:=⟨by kernel_rfl⟩
instance:bX Tryz.prog 220:=⟨by kernel_rfl⟩
instance:bX Tryz.prog 221:=⟨by kernel_rfl⟩
instance:bX Tryz.prog 222:=⟨by kernel_rfl⟩
instance:bX Tryz.prog 223:=⟨by kernel_rfl⟩
instance:bX Tryz.prog 224:=⟨by kernel_rfl⟩
instance:bX Tryz.prog 225:=⟨by kernel_rfl⟩
instance:bX Tryz.prog 226:=⟨by kernel_rfl⟩
instance:bX Tryz.prog 227:=⟨by kernel_rfl⟩
instance:bX Tryz.prog 229:=⟨by kernel_rfl⟩
instance:bX Tryz.prog 233:=⟨by kernel_rfl⟩
instance:bX Tryz.prog 238:=⟨by kernel_rfl⟩
instance:bX Tryz.prog 243:=⟨by kernel_rfl⟩
instance:bX Tryz.prog 245:=⟨by kernel_rfl⟩
instance:bX Tryz.prog 246:=⟨by kernel_rfl⟩
instance:bX Tryz.prog 247:=⟨by kernel_rfl⟩
instance:bX Tryz.prog 248:=⟨by kernel_rfl⟩
instance:bX Tryz.prog 250:=⟨by kernel_rfl⟩
instance:bX Tryz.prog 251:=⟨by kernel_rfl⟩
instance:bX Tryz.prog 252:=⟨by kernel_rfl⟩
instance:bX Tryz.prog 253:=⟨by kernel_rfl⟩
instance:bX Tryz.prog 255:=⟨by kernel_rfl⟩
instance:bX Tryz.prog 258:=⟨by kernel_rfl⟩
instance:bX Tryz.prog 259:=⟨by kernel_rfl⟩
instance:bX Tryz.prog 260:=⟨by kernel_rfl⟩
instance:bX Tryz.prog 264:=⟨by kernel_rfl⟩
instance:bX Tryz.prog 265:=⟨by kernel_rfl⟩
instance:bX Tryz.prog 266:=⟨by kernel_rfl⟩
instance:bX Tryz.prog 268:=⟨by kernel_rfl⟩
instance:bX Tryz.prog 295:=⟨by kernel_rfl⟩
instance:bX Tryz.prog 296:=⟨by kernel_rfl⟩
instance:bX Tryz.prog 303:=⟨by kernel_rfl⟩
instance:bX Tryz.prog 304:=⟨by kernel_rfl⟩
instance:bX Tryz.prog 305:=⟨by kernel_rfl⟩
instance:bX Tryz.prog 306:=⟨by kernel_rfl⟩
instance:bX Tryz.prog 307:=⟨by kernel_rfl⟩
instance:bX Tryz.prog 308:=⟨by kernel_rfl⟩
instance:bX Tryz.prog 312:=⟨by kernel_rfl⟩
instance:bX Tryz.prog 313:=⟨by kernel_rfl⟩
instance:bX Tryz.prog 314:=⟨by kernel_rfl⟩
instance:bX Tryz.prog 315:=⟨by kernel_rfl⟩
instance:bX Tryz.prog 316:=⟨by kernel_rfl⟩
instance:bX Tryz.prog 338:=⟨by kernel_rfl⟩
instance:bX Tryz.prog 339:=⟨by kernel_rfl⟩
instance:bX Tryz.prog 340:=⟨by kernel_rfl⟩
instance:bX Tryz.prog 349:=⟨by kernel_rfl⟩
instance:bX Tryz.prog 350:=⟨by kernel_rfl⟩
instance:bX Tryz.prog 351:=⟨by kernel_rfl⟩
instance:bX Tryz.prog 352:=⟨by kernel_rfl⟩
instance:bX Tryz.prog 353:=⟨by kernel_rfl⟩
instance:bX Tryz.prog 354:=⟨by kernel_rfl⟩
instance:bX Tryz.prog 356:=⟨by kernel_rfl⟩
instance:bX Tryz.prog 357:=⟨by kernel_rfl⟩
instance:bX Tryz.prog 358:=⟨by kernel_rfl⟩
instance:bX Tryz.prog 359:=⟨by kernel_rfl⟩
instance:bX Tryz.prog 360:=⟨by kernel_rfl⟩
instance:bX Tryz.prog 362:=⟨by kernel_rfl⟩
instance:bX Tryz.prog 363:=⟨by kernel_rfl⟩
end Go.Proofs.YtbjalbcdbgcgdaaGreat.sl
