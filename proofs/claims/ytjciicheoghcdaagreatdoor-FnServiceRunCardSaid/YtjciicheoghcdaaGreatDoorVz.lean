/- Part of the proof: the law FnServiceRun is true for every input. -/
import Derived.SliceStrings
import Derived.Test.YtjciicheoghcdaaGreatDoorVs
import Derived.Test.YtjciicheoghcdaaGreatDoorVu
import Derived.Test.YtjciicheoghcdaaGreatDoorVv
import Derived.Test.YtjciicheoghcdaaGreatDoorVw
import Derived.Test.YtjciicheoghcdaaGreatDoorVy
namespace Go.Proofs.YtjciicheoghcdaaGreatDoor
open Go.RowKit Go.Proofs.Tryz
set_option linter.all false
set_option maxRecDepth 20000
set_option maxHeartbeats 16000000
section
attribute [local go_sem] af ah ae
theorem Dc {v:Value}:∀ {css:List (List Value)} {j:Nat},(∀ cs,cs∈css->cs.length=1)->css.flatten.set j v=(css.set j [v]).flatten
 | [],_,_=>by simp
 | cs::css,0,h=>by
  have h1:=h cs (List.mem_cons_self ..)
  match cs,h1 with
  | [a],_=>simp
 | cs::css,j+1,h=>by
  have h1:=h cs (List.mem_cons_self ..)
  match cs,h1 with
  | [a],_ =>
   have:=Dc (v:=v) (css:=css) (j:=j) fun c hc=>h c (List.mem_cons_of_mem _ hc)
   simpa using this
theorem Dl {w0 w:World} {L:List Ow} {T:TypeId} {g n c j:Nat} {css:List (List Value)} {xs:List (List UInt8)} {F:List Nat} {x:List UInt8} (H:Hq w0 (qX txE w0.heap.size T (some ⟨g,0,none⟩) n c css xs F::L) w) (hx:xs[j]?=some x) (a:List UInt8):Hq w0 (qX txE w0.heap.size T (some ⟨g,0,none⟩) n c (css.set j [.string (bs a)]) (xs.set j a) F::L) (w.setCell ⟨g,j,none⟩ (.string (bs a))):=by
 have U:UpL (fun i=>i=g) w (w.setCell ⟨g,j,none⟩ (.string (bs a))):=UpL.refl.Bc _ _ fun _=>rfl
 have K:=H.ul U fun i hi=> .inl (by rw[hi];rfl)
 obtain⟨h1,h2,h3,h4,h5⟩:=H.S.1;have hgF:=h5 g rfl;obtain⟨cs,F1,F2,F3,e1,e2,e3,e4⟩:=h3.focus hx;have hk:∀ i,i∈F->(w.setCell ⟨g,j,none⟩ (.string (bs a))).heap[i]?=w.heap[i]?:=fun i hi=>Below.heap_setCell _ _ _ i fun e=>hgF (by have e:i=g:=e;rw[<-e];exact hi)
 have P:OX txE (w.setCell ⟨g,j,none⟩ (.string (bs a))) w0.heap.size T (some ⟨g,0,none⟩) n c (css.set j [.string (bs a)]) (xs.set j a) F:=⟨by rw[<-Dc h3.lens];exact h1.store j _,by rw[List.length_set];exact h2,e4 _ _ _ (fun i hi=>hk i (by rw[e2];exact(List.mem_append.1 hi).elim (fun h=>by simp[h]) (fun h=>by simp[h]))) ⟨rfl,e3.2⟩,h4.au hk,h5⟩
 refine⟨⟨P,H.S.2.1,K.S⟩,fun d hd i hi=>?_,K.O⟩
 rcases List.mem_cons.1 hd with rfl|hd
 ·exact H.B _ (List.mem_cons_self ..) i hi
 ·exact K.B d hd i hi
theorem Da (w:World):∀ n:Nat,dJ txE w (List.replicate n [.string (bs [])]) (List.replicate n []) []
 | 0=>rfl
 | n+1=>⟨[],[],rfl,⟨rfl,rfl⟩,Da w n⟩
theorem OX.blank (w:World) (n:Nat) (hn:n<=35184372088832):OX txE (w.alloc (.cells (madeCells #[.string (bs [])] n) 9)) w.heap.size 9 (some ⟨w.heap.size,0,none⟩) n n (List.replicate n [.string (bs [])]) (List.replicate n []) []:=by
 have h:=World.ownsRow_lit (base:=w.heap.size) (e:=9) (size:=1) w (madeCells #[.string (bs [])] n) n Ql (by unfold maxLen;omega) (by simp[size_madeCells])
 have e:(madeCells #[.string (bs [])] n).toList=(List.replicate n [Value.string (bs [])]).flatten:=by rw[toList_madeCells_one];simp
 rw[e] at h
 exact⟨h,by simp,Da _ n,Fr.nil _ _,fun g _ hg=>by cases hg⟩
theorem Dg {n k:Nat} {p:List (List UInt8)} {a:List UInt8} (hp:p.length=k) (hk:k<n):(p++List.replicate (n-k) []).set k a=(p++[a])++List.replicate (n-(k+1)) []:=by
 rw[List.set_append_right _ _ (by omega),hp,Nat.sub_self,show n-k=(n-(k+1))+1 by omega,List.replicate_succ,List.set_cons_zero]
 simp
def RnN (w:World) (e:Ending) (w':World):Prop:=e= .returned (.tuple #[.agg #[.slice none 0 0,.int .i64 0],.slice none 0 0])/\Below w.heap.size w w'
theorem CO {net:List SL} {s:Int} {n:Nat} (hv:svB (net,s)=false\/20<n) (hss:svS (net,s)) {A B:Option Addr} {cap cB:Nat} {F:List Nat} (w:World) (hx:RI (kE smE) w A net.length cap net F) :
  Calls prog 25 #[.agg #[.slice A net.length cap,.int .i64 s],.slice B n cB] w (RnN w):=by
 have HSS:=Qh hss;have HX:=Qh hx;clear hss hx
 cases hs:svB (net,s)
 ·have HSV:=Qh hs;clear hv hs;refine zE ?_;intro u1 H;refine zG (iM u1 [.slice A net.length cap,.int .i64 s] (net,s) F ⟨A,cap,rfl,HX.out.below H.O⟩ HSS.out) ?_;rintro e w2 ⟨rfl,hb⟩;replace H:=H.b hb;rw[HSV.out];clear hb;refine zS_ ?_;clear H;intro u3 H
  exact⟨rfl,H.O⟩
 ·have HSV:=Qh hs;have h20:(20:Int)<(n:Int):=by rcases hv with h|h;rw[hs] at h;cases h;omega
  clear hv hs;refine zE ?_;intro u1 H;refine zG (iM u1 [.slice A net.length cap,.int .i64 s] (net,s) F ⟨A,cap,rfl,HX.out.below H.O⟩ HSS.out) ?_;rintro e w2 ⟨rfl,hb⟩;replace H:=H.b hb;rw[HSV.out];clear hb;refine zS_ ?_;clear H;intro u3 H
  exact⟨rfl,H.O⟩
theorem CX {net:List SL} {s:Int} (h:jO net s) {ls:List (List UInt8)} {n:Nat} (hn:n<=20) (hl:∀ l,l∈ls->l.length<=1048576) {A B:Option Addr} {cap cB:Nat} {F FB:List Nat} (w:World) (ht:Tab w) (hm:iD w) (hx:RI (kE smE) w A net.length cap net F) (hls:RI txE w B n cB ls FB) :
  Calls prog 25 #[.agg #[.slice A net.length cap,.int .i64 s],.slice B n cB] w (RnP net s ls w):=by
 have h20:(n:Int)<=20:=by omega
 have HSV:Hid (svB (net,s)=true):=by unfold Hid svB;rw[h.1,h.2];rfl
 have HSS:Hid (svS (net,s)):=mg h.1;have HS:=Qh h;have HLN:=Qh hls.1;have HLS:=Qh hl;have HLX:=Qh hls;have HT:=Qh ht;have HM:=Qh hm;have HX:=Qh hx;clear h hl ht hm hx hls;refine zE ?_;intro u1 H;refine zG (iM u1 [.slice A net.length cap,.int .i64 s] (net,s) F ⟨A,cap,rfl,HX.out.below H.O⟩ HSS.out) ?_;rintro e w2 ⟨rfl,hb⟩;replace H:=H.b hb;rw[HSV.out];clear hb;refine zN ?_;clear H;intro u3 H;refine zG (bg HS.out.1 u3 (HX.out.below H.O)) ?_;rintro e w4 ⟨AC,cC,cssC,FC,rfl,hox,hb⟩;replace H:=H.ox hb hox;clear hox hb;refine zC ?_;intro C;intros;have hmk:=ui n (by omega) (w4.alloc (.cells #[.slice AC net.length cC,.int .i64 s] 25))
 go_wp2;clear hmk;refine nqW (Hq.ox (Hq.al (t:=25) (cs:=[.slice AC net.length cC,.int .i64 s]) H rfl) (Qb.alloc Ql _) (OX.blank _ n (by omega))) ?_;clear H C;intro u5 H
 obtain⟨gY,hgY⟩:∃ g,g=w4.heap.size:=⟨_,rfl⟩;simp only[World.size_alloc] at H;obtain⟨go,hgo⟩:∃ g,g=w4.heap.size+1:=⟨_,rfl⟩;rw[<-hgo,<-hgY] at H ⊢;clear hgY hgo;replace H:=(((((H.r 4).r 4).r 3).r 4).r 4);intros
 go_loopw [26] (fun i wr=>∃ (k:Nat) (yq:Rns) (AN:Option Addr) (cN:Nat) (cssN:List (List Value)) (FN:List Nat) (dss:List (List Value)) (G:List Nat),k<=n/\i= .int .i64 k/\Hid (rnF net s (ls.take k)=yq/\jO yq.1.1 yq.1.2)/\Hid (Hq w [qX txE w.heap.size 9 (some ⟨go,0,none⟩) n n dss (yq.2++List.replicate (n-k) []) G,qX (kE smE) w.heap.size 99 AN yq.1.1.length cN cssN yq.1.1 FN,qB gY 25 [.slice AN yq.1.1.length cN,.int .i64 yq.1.2],qB (w.heap.size+1) 25 [.slice none 0 0,.int .i64 0],qB w.heap.size 25 [.slice A net.length cap,.int .i64 s]] wr)) (fun i _=>n-(intOf i).toNat)
 case atStart=>exact⟨0,((net,s),[]),_,_,_,_,_,_,Nat.zero_le _,rfl,⟨rfl,HS.out⟩,H⟩
 case round =>
 clear H;obtain⟨k,yq,AN,cN,cssN,FN,dss,G,hk,rfl,HQ,H⟩:=hrel;have H:=H.out
 by_cases hlt:k<n
 ·obtain⟨l,hl,hmem⟩:=aH (xs:=ls) (j:=k) (by rw[HLN.out];exact hlt)
  have HLI:=Qh hl;have HLL:=Qh (HLS.out l hmem);obtain⟨b,off,cs,F8,rfl,hb9,hc9,_,hcs⟩:=HLX.out.cells hl 1 rfl;obtain⟨rfl,-⟩:=hcs;have hc0:wr.cell? ⟨b,off+k,none⟩=some (.string (bs l)):=(H.O.cell (p:=⟨b,off+k,none⟩) hb9).trans (by have:=hc9 0 (by omega);simpa using this)
  have zb:=Nat.lt_of_lt_of_le hb9 H.m;have k0:(0:Int)<=(k:Int):=by omega
  have k1:(k:Int)<(n:Int):=by omega
  clear hl hmem hc9 hb9;refine zN ?_;clear H;intro u21 H;obtain⟨F9,hri,-⟩:=OX.rf (H.x 1);refine zG (mz HQ.out.2 HLL.out u21 (HT.out.below H.O Ql) (HM.out.below H.O Ql) hri) ?_;rintro e w22 ⟨r,A5,c5,css5,F5,hL,rfl,hox,hb⟩;replace H:=H.ox hb hox;have HL5:=Qh hL;clear hL hox hb hri;replace H:=H.d 2;replace H:=H.r 1;have hgg:go≠gY:=fun e=>Hq.nbx H (h0:=gY) (by repeat (with_reducible first|exact Has.h0|apply Has.t0)) (by rw[e];rfl)
  have hgf:=VO.frozen (H.x 0).1 k;have hgc:=VO.cell (H.x 0).1 k (by show k<n*1;omega)
  have hgl:∃ z,dss.flatten[k]?=some z:=⟨_,List.getElem?_eq_getElem (by rw[VO.len (H.x 0).1];show k<n*1;omega)⟩
  obtain⟨z,hz⟩:=hgl;rw[hz] at hgc;have hgb:=(VO.aj (H.x 0).1 go rfl).2;have hql:yq.2.length=k:=by rw[<-HQ.out.1,CW,List.length_take,HLN.out];omega
  have hq2:(yq.2++List.replicate (n-k) ([]:List UInt8))[k]?=some []:=by rw[List.getElem?_append_right (by omega),hql,Nat.sub_self,List.getElem?_replicate,if_pos (by omega)]
  have H2:=fun v0 v1=>Dl (j:=k) (Hq.st (v:=v1) (Hq.st (v:=v0) H (i:=0) (g:=gY) (by repeat (with_reducible first|exact gv.z0|apply gv.s0|apply Upd.h0|apply Upd.o0|apply Upd.t0))) (i:=1) (g:=gY) (by repeat (with_reducible first|exact gv.z0|apply gv.s0|apply Upd.h0|apply Upd.o0|apply Upd.t0))) hq2 r.2
  refine zC ?_;intro C;intros;have HH:=Qh H2;have HQL:=Qh hql;clear H2 hql hq2 H;go_wp2
  go_roundw
  case rel=>exact⟨k+1,(r.1,yq.2++[r.2]),A5,c5,css5,F5,_,_,by omega,by go_num,⟨Dh HQ.out.1 HLI.out HL5.out,HL5.out.ok HQ.out.2⟩,by have h:=HH.out (.slice A5 r.1.1.length c5) (.int .i64 r.1.2);rw[Dg HQL.out hlt] at h;exact h⟩
  case measure=>simp[intOf];omega
 ·obtain rfl:k=n:=by omega
  have hal:ls.take k=ls:=List.take_of_length_le (by rw[HLN.out];exact Nat.le_refl _)
  have HRN:Hid (rnF net s ls=yq):=by have h:=HQ.out.1;rwa [hal] at h
  have hql:yq.2.length=k:=by rw[<-HRN.out,CW,HLN.out]
  rw[Nat.sub_self,List.replicate_zero,List.append_nil] at H;clear hal;subst hql;refine zS_ ?_;clear H;intro u41 H
  exact⟨yq,AN,cN,cssN,FN,some ⟨go,0,none⟩,_,dss,G,HRN.out,HQ.out.2,rfl,(H.x 1),(H.x 0),Sp.apart (i:=1) (j:=0) H.S rfl rfl (by decide),H.O⟩
end
section
open Go.RowKit Go.ChangeShapes Go.WideShapes Go.ChangeAt
theorem RI.str {w:World} {A:Option Addr} {n c:Nat} {xs:List (List UInt8)} {F:List Nat} (h:RI txE w A n c xs F) {j:Nat} {x:List UInt8} (hx:xs[j]?=some x):∃ b off,A=some ⟨b,off,none⟩/\b<w.heap.size/\w.cell? ⟨b,off+j,none⟩=some (.string (bs x)):=by
 obtain⟨b,off,cs,F1,e,hb,hc,_,hP⟩:=h.cells hx 1 rfl;obtain⟨rfl,-⟩:=hP
 exact⟨b,off,e,hb,by have:=hc 0 (by omega);simpa using this⟩
def CZ (k:Int):List UInt8:=if k<=0 then [109,48] else 109::Lib.decDigits k.toNat
def Mt0 (n m:Int) (s:ByteArray):Prop:=∃ r,s=bs r/\(m=0->Lib.decDigits n.toNat=r)/\(0<m->Lib.decDigits n.toNat=Lib.decDigits m.toNat++r)
theorem Mt0.start (n:Int) (h:0<n):Mt0 n n ⟨#[]⟩:=⟨[],rfl,fun e=>by omega,fun _=>by simp⟩
theorem Mt0.step {n m:Int} {s:ByteArray} (h:Mt0 n m s) (hm:0<m):Mt0 n (m/10) (strOfNums [48+m%10]++s):=by
 obtain⟨r,rfl,_,h2⟩:=h;refine⟨UInt8.ofNat (48+m%10).toNat::r,?_,fun e=>?_,fun e=>?_⟩
 ·rw[Cc,bN];rfl
 ·rw[h2 hm,vQ (by omega) (by omega)];rfl
 ·rw[h2 hm,Af (by omega),List.append_assoc];rfl
theorem Mt0.size {n m:Int} {s:ByteArray} (h:Mt0 n m s) (hm:0<=m) (hn:n<=4611686018427387904):(s.size:Int)<=4611686018427387905:=by
 obtain⟨r,rfl,h1,h2⟩:=h;have h3:=e7 n.toNat;rw[aK];rcases Int.lt_or_eq_of_le hm with h0|h0
 ·rw[h2 h0,List.length_append] at h3
  omega
 ·rw[h1 h0.symm] at h3
  omega
theorem Mt0.fin {n:Int} {s:ByteArray} (h:Mt0 n 0 s) (h0:0<n):(⟨#[109]⟩:ByteArray)++s=bs (CZ n):=by
 obtain⟨r,rfl,h1,_⟩:=h;have e:(⟨#[109]⟩:ByteArray)=bs [109]:=rfl;rw[e,bN];unfold CZ;rw[if_neg (by omega),h1 rfl]
 rfl
end
section
theorem Ge {w:World} {b g0 n k q:Nat} {A:Option Addr} {css:List (List Value)} {xs:List (List UInt8)} {x:List UInt8} {o:Oper} {a:Act} {ops:Array Oper} {rest:List Oper} {Q:Exit->Act->World->Prop} (hgd:o.guard=none) (s y:Operand) (ho:o.op= .call { callee:= .builtin .append,args:=#[s,y],argTypes:=#[48,48] }) (hs:a.eval s= .slice A n k) (hy:a.eval y= .slice (some ⟨g0,0,none⟩) 1 q)
  (hO:OX txE w b 9 A n k css xs []) (hB:Blk w g0 9 #[.string (bs x)]) (hn:n<=1000000) (hb:b<=w.heap.size)
  (h:∀ g cap w',OX txE w' b 9 (some ⟨g,0,none⟩) (n+1) cap (css++[[.string (bs x)]]) (xs++[x]) []->bJ A w w'->wpList prog ops Q rest (a.put o.dst (.slice (some ⟨g,0,none⟩) (n+1) cap)) w'):wpList prog ops Q (o::rest) a w :=
 wpList_plain hgd fun _ hK=>by
  obtain⟨g,cap,w',hr,r1,r2,r3⟩:=jv (E:=txE) (cs:=[.string (bs x)]) (q:=q) yJ o.type hO hB rfl (by simp[Value.oneCell']) hn hb
  unfold Oper.wp execOp;simp only[ho,resolve,invoke,builtin,Sem.run_bind,Sem.run_pure,Result.andThen_ok,List.map_toArray,List.map_cons,List.map_nil,hs,hy,hr];obtain⟨k1,_,k3⟩:=OX.Dw (E:=txE) (w:=w) (B:=0) (x:=x) (F1:=[]) hO ⟨rfl,rfl⟩ (Fr.nil _ _) (fun g hg=>by cases hg) ((Below.refl w.heap.size w).mono (Nat.zero_le _)) (Nat.zero_le _) hb (Nat.zero_le _) r1 r2 r3
  exact hK _ _ (h g cap w' k1 k3)
structure Sre (w:World) (rb g5:Nat) (A:Option Addr) (c:Nat) (x:List (Int×List (Mx×Mx))×Int) (F:List Nat) (P:Nat) (W:World):Prop where
 rd:Rd W rb P
 b2:Blk W w.heap.size 25 #[.slice none 0 0,.int .i64 0]
 b5:Blk W g5 25 #[.slice A x.1.length c,.int .i64 x.2]
 ri:RI (kE smE) W A x.1.length c x.1 F
 bw:Below w.heap.size w W
section
variable {w W W':World} {rb g5:Nat} {A:Option Addr} {c:Nat} {x:List (Int×List (Mx×Mx))×Int} {F:List Nat} {P P':Nat}
theorem Sre.below (h:Sre w rb g5 A c x F P W) (h1:w.heap.size<rb) (h2:rb<g5) (hF:∀ g,g∈F->g<=g5) (hb:Below (g5+1) W W'):Sre w rb g5 A c x F P W' :=
 ⟨h.rd.au fun k hk=>hb.block k (by omega),h.b2.below hb (by omega),h.b5.below hb (by omega),h.ri.au fun g hg=>hb.block g (by have:=hF g hg;omega),h.bw.trans (hb.mono (by omega))⟩
theorem Sre.only (h:Sre w rb g5 A c x F P W) (h1:w.heap.size<rb) (h2:rb<g5) (hF:∀ g,g∈F->g≠rb) (ho:aZ rb W W') (hr:Rd W' rb P'):Sre w rb g5 A c x F P' W' :=
 ⟨hr,h.b2.only ho (by omega),h.b5.only ho (by omega),h.ri.only ho (fun e=>hF rb e rfl),h.bw.trans (ho.toBelow (by omega) h.bw.size)⟩
end
def DSR (w:World) (e:Ending) (w':World):Prop:=∃ (A:Option Addr) (c:Nat) (x:List (Int×List (Mx×Mx))×Int) (F:List Nat) (gB:Nat) (d:Nat) (ls:List (List UInt8)) (G:List Nat),e= .returned (.tuple #[.agg #[.slice A x.1.length c,.int .i64 x.2],.slice (some ⟨gB,0,none⟩) ls.length d])/\RI (kE smE) w' A x.1.length c x.1 F/\RI txE w' (some ⟨gB,0,none⟩) ls.length d ls G/\svS x/\(∀ l,l∈ls->l.length<=1048576)/\ls.length<=21/\Below w.heap.size w w'
theorem Gf (A:Option Addr) (len cap:Nat) (w:World) (hl:len<=cap) (hm:cap<=maxLen) (hr:Bytes w w.heap.size A len) (h0:A=none->cap=0):Calls prog 30 #[.slice A len cap] w (DSR w):=by
 obtain⟨u1,hu1⟩:∃ u,u=(w.alloc (.cells #[.slice none 0 0,.int .i64 0] 25)):=⟨_,rfl⟩;have b_1:Blk u1 w.heap.size 25 #[.slice none 0 0,.int .i64 0]:=by rw[hu1];exact Blk.new _ _ _
 have O1:Below w.heap.size w u1:=by rw[hu1];exact Qb.alloc Ql _
 go_enter func30,ntmps30
 go_wp2_with fail
 rw[<-hu1];clear hu1;have q1:w.heap.size<u1.heap.size:=b_1.lt;refine(EM A len cap u1 hl hm (hr.au (fun j hj=>O1.block j hj) |>.mono (by omega)) h0).mono ?_
 rintro e w1 ⟨rfl,r1,hb1,hlt⟩;have b_2:=b_1.aa hb1;have O2:Below w.heap.size w w1:=O1.trans (hb1.mono (by omega))
 have s1:=hb1.size;obtain⟨rb,hrb⟩:∃ rb,rb=u1.heap.size:=⟨_,rfl⟩;rw[<-hrb] at r1 hlt q1 s1 ⊢;clear hr h0 b_1 O1 hb1 hrb
 go_wp2_with fail
 refine(Ei rb 0 14 (by omega) w1 r1 (by omega)).mono ?_
 rintro e w2 ⟨A',c',x,F,rfl,hri,hF,hsv,r2,o2⟩;have b_3:=b_2.only o2 (by omega)
 have O3:Below w.heap.size w w2:=O2.trans (o2.toBelow (by omega) (by omega))
 have s2:=o2.size;have HS:=Qh hsv;have l2:=r2.lt;have hlr:=r1.lt;clear r1 b_2 O2 hsv o2
 go_wp2_with fail
 obtain⟨g5,hg5⟩:∃ g,g=w2.heap.size:=⟨_,rfl⟩;obtain⟨u3,hu3⟩:∃ u,u=(w2.alloc (.cells #[.slice A' x.1.length c',.int .i64 x.2] 25)).alloc (.cells #[] 9):=⟨_,rfl⟩;rw[<-hu3];have HX:OX txE u3 (g5+1) 9 (some ⟨g5+1,0,none⟩) 0 0 [] [] []:=by
  rw[hu3,hg5];have h:=OX.kG (E:=txE) (base:=w2.heap.size+1) (w2.alloc (.cells #[.slice A' x.1.length c',.int .i64 x.2] 25)) (by simp) 9
  simpa using h
 have n1:w.heap.size<rb:=q1;have n2:rb<g5:=by omega
 have HFL:Hid (∀ g,g∈F->g<=g5):=fun g hg=>by have:=hri.lt g hg;omega
 have HFR:Hid (∀ g,g∈F->g≠rb):=fun g hg=>by have:=hF g hg;omega
 have HF2:Hid (∀ g,g∈F->g≠w.heap.size):=fun g hg=>by have:=hF g hg;omega
 have HE:Sre w rb g5 A' c' x F 4100 u3:=by
  rw[hu3];refine⟨((r2.alloc _).alloc _).mono (by omega),(b_3.alloc _).alloc _,?_,RI.alloc (RI.alloc hri _) _,(O3.alloc O3.size _).alloc (by have:=O3.size;simp;omega) _⟩
  rw[hg5]
  exact(Blk.new _ _ _).alloc _
 have hz3:g5+1<u3.heap.size:=by rw[hu3,hg5];simp
 have HEE:=Qh HE;have HXX:=Qh HX;have hrd:=HE.rd;have hgp:u3.heap.size=u3.heap.size:=rfl;simp only[<-hg5];clear hu3 hri b_3 O3 r2 hF s1 s2 l2 HX HE hgp hlr;refine(FE rb 4100 4 u3 hrd (by omega)).mono ?_
 rintro e w4 ⟨k0,rfl,k0a,k0b,r4,o4⟩;have k0c:k0<=3:=by omega
 have HE4:Hid (Sre w rb g5 A' c' x F 4101 w4):=HEE.out.only n1 n2 HFR.out o4 r4;have HX4:Hid (OX txE w4 (g5+1) 9 (some ⟨g5+1,0,none⟩) 0 0 [] [] []):=HXX.out.au o4.size fun g hl hg=>o4.block g hl (fun e=>by injection e with e;have:=hg.resolve_right (fun h=>by cases h);simp[blk] at this;omega)
 have z4:g5+1<w4.heap.size:=by have:=o4.size;omega
 clear k0b r4 o4 hrd HEE HXX hz3 hg5;go_wp2
 go_loopw [7,6] (fun q o wr=>∃ (k:Int) (n cc:Nat) (g6:Nat) (css:List (List Value)) (ls:List (List UInt8)),0<=k/\k+(n:Int)<=3/\q= .int .i64 k/\o= .slice (some ⟨g6,0,none⟩) n cc/\Hid (Sre w rb g5 A' c' x F (4101+1800*n) wr)/\Hid (OX txE wr (g5+1) 9 (some ⟨g6,0,none⟩) n cc css ls []/\(∀ l,l∈ls->l.length<=40000)/\g5+1<wr.heap.size)) (fun q _ _=>(intOf q).toNat)
 case atStart=>exact⟨k0,0,0,_,[],[],k0a,by omega,rfl,rfl,HE4,⟨HX4.out,(fun l hl=>by cases hl),z4⟩⟩
 case round =>
  clear HE4 HX4 z4 k0a k0c;obtain⟨k,n,cc,g6,css,ls,k0,kn,rfl,rfl,he,hx⟩:=hrel;have hrd:=he.out.rd
  by_cases hlt:0<k
  ·have hq:=IntWalk.i64_in (k-1) (by omega)
   go_wp2_with fail
   refine(EN rb (4101+1800*n) wr hrd (by omega)).mono ?_
   rintro e w6 ⟨t,rfl,ht,r6,o6⟩;obtain⟨l,rfl⟩:∃ l,t=bs l:=⟨t.data.toList,(fe t).symm⟩;have hll:l.length<=40000:=by rw[aK] at ht;exact ht
   have HLL:=Qh hll;have he6:Sre w rb g5 A' c' x F (4101+1800*(n+1)) w6:=he.out.only n1 n2 HFR.out o6 (r6.mono (by omega))
   have hx6:OX txE w6 (g5+1) 9 (some ⟨g6,0,none⟩) n cc css ls []:=hx.out.1.au o6.size fun g hl hg=>o6.block g hl (fun e=>by
    injection e with e;have h1:=hg.resolve_right (fun h=>by cases h)
    have:=(hx.out.1.aj g h1).1
    omega)
   have z6:g5+1<w6.heap.size:=by have:=o6.size;have:=hx.out.2.2;omega
   have HL6:=Qh hx.out.2.1;have HE6:=Qh he6;have HX6:=Qh hx6;clear hrd ht hll r6 o6 he6 hx6 he hx;have B7:Hid (Blk (w6.alloc (.cells #[.string (bs l)] 9)) w6.heap.size 9 #[.string (bs l)]):=Blk.new _ _ _;have HX7:Hid (OX txE (w6.alloc (.cells #[.string (bs l)] 9)) (g5+1) 9 (some ⟨g6,0,none⟩) n cc css ls []):=HX6.out.alloc _;have HE7:Hid (Sre w rb g5 A' c' x F (4101+1800*(n+1)) (w6.alloc (.cells #[.string (bs l)] 9))):=HE6.out.below n1 n2 HFL.out (Qb.alloc (by omega) _)
   clear HE6 HX6
   go_wp2_with (at_builtin;refine Ge rfl _ _ rfl rfl rfl HX7.out B7.out (by omega) (by simp;omega) ?_)
   intro g7 c7 w8 hx8 ho8;have HE8:Hid (Sre w rb g5 A' c' x F (4101+1800*(n+1)) w8):=HE7.out.below n1 n2 HFL.out (ho8.toBelow (fun g hg=>(HX7.out.aj g hg).1) (by simp;omega))
   have HX8:Hid (OX txE w8 (g5+1) 9 (some ⟨g7,0,none⟩) (n+1) c7 (css++[[.string (bs l)]]) (ls++[l]) []/\(∀ y,y∈ls++[l]->y.length<=40000)/\g5+1<w8.heap.size):=⟨hx8,fun y hy=>by
    rcases List.mem_append.1 hy with hy|hy
    ·exact HL6.out y hy
    ·simp at hy;subst hy;exact HLL.out,by have:=ho8.size;simp at this;omega⟩
   clear HX7 B7 hx8 ho8 HE7 HL6 HLL z6;go_wp2
   go_roundw
   case rel=>exact⟨k-1,n+1,c7,_,_,_,by omega,by omega,by go_num,rfl,HE8,HX8⟩
   case measure=>simp[intOf];omega
  ·obtain rfl:k=0:=by omega
   have HE:=he;have HX:=hx;clear he hx
   go_wp2_with fail
   refine(EG rb (4101+1800*n) 24 (by omega) wr hrd (by omega)).mono ?_
   rintro e w9 ⟨od,rfl,r9,o9⟩;have he9:Sre w rb g5 A' c' x F (4101+1800*n+1) w9:=HE.out.only n1 n2 HFR.out o9 r9;have hx9:OX txE w9 (g5+1) 9 (some ⟨g6,0,none⟩) n cc css ls []:=HX.out.1.au o9.size fun g hl hg=>o9.block g hl (fun e=>by
    injection e with e;have h1:=hg.resolve_right (fun h=>by cases h)
    have:=(HX.out.1.aj g h1).1
    omega)
   have HL9:=Qh HX.out.2.1;have z9:g5+1<w9.heap.size:=by have:=o9.size;have:=HX.out.2.2;omega
   have HB9:=Qh he9.bw;have HR9:=Qh he9.ri;have HX9:=Qh hx9;have HB29:=Qh he9.b2;have HB59:=Qh he9.b5;have b20:w9.cell? ⟨w.heap.size,0,none⟩=some (.slice none 0 0):=he9.b2.cell 0;have b21:w9.cell? ⟨w.heap.size,1,none⟩=some (.int .i64 0):=he9.b2.cell 1;have f20:=he9.b2.frozen 0;have f21:=he9.b2.frozen 1;have b50:w9.cell? ⟨g5,0,none⟩=some (.slice A' x.1.length c'):=he9.b5.cell 0;have b51:w9.cell? ⟨g5,1,none⟩=some (.int .i64 x.2):=he9.b5.cell 1;have n3:w.heap.size<w9.heap.size:=by omega
   have n4:g5<w9.heap.size:=by omega
   have n5:¬g5=w.heap.size:=by omega
   have n6:¬w.heap.size=g5:=by omega
   clear hrd r9 o9 he9 hx9 HE HX hlt
   cases od
   ·go_wp2;refine bodyPost_ret (v:= .tuple #[.agg #[.slice A' x.1.length c',.int .i64 x.2],.slice (some ⟨g6,0,none⟩) n cc]) (by simp[results,results30,go_sem,b20,b21,f20,f21,n3]) rfl ?_
    obtain⟨F2,hr2,_,hF2⟩:=OX.rf HX9.out;obtain rfl:=hr2.1;refine⟨A',c',x,F,g6,cc,ls,F2,rfl,HR9.out.au fun g hg=>?_,hr2.au fun g hg=>?_,HS.out,fun l hl=>by have:=HL9.out l hl;omega,by omega,(HB9.out.setCell (by dsimp only;omega) _).setCell (by dsimp only;omega) _⟩
    ·have:=HF2.out g hg
     exact(Below.heap_setCell _ _ _ g (by dsimp only;omega)).trans (Below.heap_setCell _ _ _ g (by dsimp only;omega))
    ·have h1:=(hF2 g hg).resolve_right (fun h=>by cases h)
     have:=(HX9.out.aj g h1).1
     exact(Below.heap_setCell _ _ _ g (by dsimp only;omega)).trans (Below.heap_setCell _ _ _ g (by dsimp only;omega))
   ·have hmk:(Instr.makeSlice 48 (.int .i64 21) (.int .i64 21)).run prog w9= .ok (.slice (some ⟨w9.heap.size,0,none⟩) 21 21) (w9.alloc (ZS 21)):=ui 21 (by omega) w9
    obtain⟨O,hO⟩:∃ O,O=ZS 21:=⟨_,rfl⟩;have HOX:Hid (∀ V:World,V.heap.size=w9.heap.size->OX txE (V.alloc O) w9.heap.size 9 (some ⟨w9.heap.size,0,none⟩) 21 21 (List.replicate 21 [.string (bs [])]) (List.replicate 21 []) []):=fun V hV=>by rw[hO,<-hV];exact OX.blank V 21 (by omega)
    rw[<-hO] at hmk;clear hO;have BV:Hid (Blk ((w9.setCell ⟨w.heap.size,0,none⟩ (.slice A' x.1.length c')).setCell ⟨w.heap.size,1,none⟩ (.int .i64 x.2)) w.heap.size 25 #[.slice A' x.1.length c',.int .i64 x.2]):=by
     have h:=(HB29.out.dc 0 (.slice A' x.1.length c')).dc 1 (.int .i64 x.2)
     show Blk _ _ _ _
     simpa using h
    have a20:(((w9.setCell ⟨w.heap.size,0,none⟩ (.slice A' x.1.length c')).setCell ⟨w.heap.size,1,none⟩ (.int .i64 x.2)).alloc O).cell? ⟨w.heap.size,0,none⟩=some (.slice A' x.1.length c'):=(BV.out.alloc O).cell 0;have a21:(((w9.setCell ⟨w.heap.size,0,none⟩ (.slice A' x.1.length c')).setCell ⟨w.heap.size,1,none⟩ (.int .i64 x.2)).alloc O).cell? ⟨w.heap.size,1,none⟩=some (.int .i64 x.2):=(BV.out.alloc O).cell 1;have HZV:Hid (((w9.setCell ⟨w.heap.size,0,none⟩ (.slice A' x.1.length c')).setCell ⟨w.heap.size,1,none⟩ (.int .i64 x.2)).heap.size=w9.heap.size):=by show _=_;simp[World.setCell]
    go_wp2;refine bodyPost_ret (v:= .tuple #[.agg #[.slice A' x.1.length c',.int .i64 x.2],.slice (some ⟨w9.heap.size,0,none⟩) 21 21]) (by simp[results,results30,go_sem,a20,a21,f20,f21,n3]) rfl ?_
    obtain⟨F2,hr2,_,hF2⟩:=OX.rf (HOX.out ((w9.setCell ⟨w.heap.size,0,none⟩ (.slice A' x.1.length c')).setCell ⟨w.heap.size,1,none⟩ (.int .i64 x.2)) HZV.out);refine⟨A',c',x,F,w9.heap.size,21,List.replicate 21 [],F2,by simp,?_,?_,HS.out,fun l hl=>by rw[List.eq_of_mem_replicate hl];simp,by simp,((HB9.out.setCell (by dsimp only;omega) _).setCell (by dsimp only;omega) _).alloc (by rw[HZV.out];exact HB9.out.size) _⟩
    ·refine RI.alloc (HR9.out.au fun g hg=>?_) O
     have:=HF2.out g hg
     exact(Below.heap_setCell _ _ _ g (by dsimp only;omega)).trans (Below.heap_setCell _ _ _ g (by dsimp only;omega))
    ·rw[List.length_replicate]
     exact hr2
end
section
attribute [local go_sem] af ah ae
def AdR (base:Nat) (A:Option Addr) (c:Nat) (css:List (List Value)) (F:List Nat) (net:List SL) (s:Int) (res:Option Res) (w:World) (e:Ending) (w':World):Prop:=(match res with
 | none=>e= .returned (.tuple #[.agg #[.slice A net.length c,.int .i64 s],.string (bs [110,111])])/\OX (kE smE) w' base 99 A net.length c css net F
 | some r=>∃ A' c' css' F',e= .returned (.tuple #[.agg #[.slice A' r.1.1.length c',.int .i64 r.1.2],.string (bs r.2)])/\OX (kE smE) w' base 99 A' r.1.1.length c' css' r.1.1 F')/\UpL (fun i=>blk A=some i\/i∈F) w w'
theorem pz {kd s:Int} {ms:List Mx} (hl:aL kd ms=true) (hs:sdB s=true):gH [(kd,ms)] s=true:=by
 unfold gH
 simp[hl,hs]
theorem qE {kd s:Int} {net:List SL} {ms:List Mx} (hl:aL kd ms=false) (hs:sdB s=true) {base c c2:Nat} {A B:Option Addr} {css:List (List Value)} {F FM:List Nat} (w:World) (hbw:base<=w.heap.size) (hox:OX (kE smE) w base 99 A net.length c css net F) (hms:RI mxE w B ms.length c2 ms FM) (hmS:∀ m,m∈ms->mS m) (hml:ms.length<=1048576) :
  Calls prog 44 #[.agg #[.slice A net.length c,.int .i64 s],.agg #[.int .i64 kd,.slice B ms.length c2]] w (AdR base A c css F net s (dI kd ms net s) w):=by
 have hns:gG (kS mS) [(kd,ms)]:=⟨by simp,fun l hl=>by obtain rfl:l=(kd,ms):=(by simpa using hl);exact⟨hml,hmS⟩⟩
 have HSP:Hid (o_ [(kd,ms)] s=([],0)):=by show _=_;rw[tz (rZ (k:=0) (l:=(kd,ms)) rfl hl)]
 have HPA:Hid (dI kd ms net s=none):=by show _=_;unfold dI;rw[if_neg (by rw[hl];simp)]
 have HZ:=Qh (Hq.rs0 hox);have HOX:=Qh hox;have HBW:=Qh hbw;have HMS:=Qh hms;have HNS:=Qh hns;clear hns hox hbw hms hmS hml hl hs;refine zE ?_;intro u1 H;have hms1:=RI.below HMS.out H.O;replace H:=HZ.out.join H (by repeat constructor)
 refine zG (jP _ _ _ [(kd,ms)] _ s u1 (RI.one (E:=kE mxE) (cs:=[.int .i64 kd,.slice B ms.length c2]) (x:=(kd,ms)) (H.k 0) ⟨B,c2,rfl,hms1⟩) HNS.out) ?_;rintro e w2 ⟨A2,n2,c3,css2,F2,rfl,hox2,hb⟩;replace H:=H.ox hb hox2;clear hox2 hb hms1;rw[HSP.out] at H ⊢
 dsimp only at H ⊢
 refine zS_ ?_;clear H;intro u3 H
 exact(by obtain⟨h1,h2⟩:=Hq.rsX HOX.out HBW.out (((((H.d 0).d 0).d 0).d 0).d 0);rw[HPA.out];exact⟨⟨rfl,h1⟩,h2⟩)
theorem Gh {kd s:Int} {net:List SL} {ms:List Mx} (hl:aL kd ms=true) (h4:net.length=4) (hs:sdB s=true) {base c c2:Nat} {A B:Option Addr} {css:List (List Value)} {F FM:List Nat} (w:World) (hbw:base<=w.heap.size) (hox:OX (kE smE) w base 99 A net.length c css net F) (hms:RI mxE w B ms.length c2 ms FM) (hmS:∀ m,m∈ms->mS m) (hml:ms.length<=1048576) :
  Calls prog 44 #[.agg #[.slice A net.length c,.int .i64 s],.agg #[.int .i64 kd,.slice B ms.length c2]] w (AdR base A c css F net s (dI kd ms net s) w):=by
 have hns:gG (kS mS) [(kd,ms)]:=⟨by simp,fun l hl=>by obtain rfl:l=(kd,ms):=(by simpa using hl);exact⟨hml,hmS⟩⟩
 have HSP:Hid (o_ [(kd,ms)] s=([(kd,(aP ms s).1)],(aP ms s).2)):=by show _=_;rw[tA (pz hl hs)];rfl
 have HPA:Hid (dI kd ms net s=none):=by show _=_;unfold dI;rw[if_neg (by omega)]
 have hqs:sdB (aP ms s).2=true:=fE hs (lD hl);obtain⟨P,hP⟩:∃ P,P=(aP ms s).1:=⟨_,rfl⟩;obtain⟨q2,hq2⟩:∃ y,y=(aP ms s).2:=⟨_,rfl⟩;rw[<-hP,<-hq2] at HSP;rw[<-hq2] at hqs;have hq0:¬q2=0:=by have:=dH hqs;omega
 have hqb:(q2 == 0)=false:=by simpa using hq0
 clear hqs hP hq2;have HZ:=Qh (Hq.rs0 hox);have HOX:=Qh hox;have HBW:=Qh hbw;have HMS:=Qh hms;have HNS:=Qh hns;clear hns hox hbw hms hmS hml hl hs;refine zE ?_;intro u1 H;have hms1:=RI.below HMS.out H.O;replace H:=HZ.out.join H (by repeat constructor)
 refine zG (jP _ _ _ [(kd,ms)] _ s u1 (RI.one (E:=kE mxE) (cs:=[.int .i64 kd,.slice B ms.length c2]) (x:=(kd,ms)) (H.k 0) ⟨B,c2,rfl,hms1⟩) HNS.out) ?_;rintro e w2 ⟨A2,n2,c3,css2,F2,rfl,hox2,hb⟩;replace H:=H.ox hb hox2;clear hox2 hb hms1;rw[HSP.out] at H ⊢
 dsimp only at H ⊢
 have e4:((net.length:Int) == 4)=true:=by simp;omega
 refine zS_ ?_;clear H;intro u3 H
 exact(by obtain⟨h1,h2⟩:=Hq.rsX HOX.out HBW.out (((((H.d 0).d 0).d 0).d 0).d 0);rw[HPA.out];exact⟨⟨by rw[h4];rfl,h1⟩,h2⟩)
theorem sC {kd s:Int} {net:List SL} {ms:List Mx} (hl:aL kd ms=true) (h4:net.length<4) (hs:sdB s=true) {base c c2:Nat} {A B:Option Addr} {css:List (List Value)} {F FM:List Nat} (w:World) (hbw:base<=w.heap.size) (hox:OX (kE smE) w base 99 A net.length c css net F) (hms:RI mxE w B ms.length c2 ms FM) (hmS:∀ m,m∈ms->mS m) (hml:ms.length<=1048576) :
  Calls prog 44 #[.agg #[.slice A net.length c,.int .i64 s],.agg #[.int .i64 kd,.slice B ms.length c2]] w (AdR base A c css F net s (dI kd ms net s) w):=by
 have hns:gG (kS mS) [(kd,ms)]:=⟨by simp,fun l hl=>by obtain rfl:l=(kd,ms):=(by simpa using hl);exact⟨hml,hmS⟩⟩
 have HSP:Hid (o_ [(kd,ms)] s=([(kd,(aP ms s).1)],(aP ms s).2)):=by show _=_;rw[tA (pz hl hs)];rfl
 have HPA:Hid (dI kd ms net s=some ((net++[(kd,(aP ms s).1)],(aP ms s).2),[111,107])):=by show _=_;unfold dI;rw[if_pos ⟨hl,h4⟩]
 have hqs:sdB (aP ms s).2=true:=fE hs (lD hl);obtain⟨P,hP⟩:∃ P,P=(aP ms s).1:=⟨_,rfl⟩;obtain⟨q2,hq2⟩:∃ y,y=(aP ms s).2:=⟨_,rfl⟩;rw[<-hP,<-hq2] at HSP HPA;rw[<-hq2] at hqs;have hq0:¬q2=0:=by have:=dH hqs;omega
 have hqb:(q2 == 0)=false:=by simpa using hq0
 clear hqs hP hq2;have hll:(net++[(kd,P)]).length=net.length+1:=by simp
 have HZ:=Qh (Hq.rs0 hox);have HOX:=Qh hox;have HBW:=Qh hbw;have HMS:=Qh hms;have HNS:=Qh hns;clear hns hox hbw hms hmS hml hl hs;refine zE ?_;intro u1 H;have hms1:=RI.below HMS.out H.O;replace H:=HZ.out.join H (by repeat constructor)
 refine zG (jP _ _ _ [(kd,ms)] _ s u1 (RI.one (E:=kE mxE) (cs:=[.int .i64 kd,.slice B ms.length c2]) (x:=(kd,ms)) (H.k 0) ⟨B,c2,rfl,hms1⟩) HNS.out) ?_;rintro e w2 ⟨A2,n2,c3,css2,F2,rfl,hox2,hb⟩;replace H:=H.ox hb hox2;clear hox2 hb hms1;rw[HSP.out] at H ⊢
 dsimp only at H ⊢
 have e4:((net.length:Int) == 4)=false:=by simp;omega
 have e5:¬(net.length:Int)=4:=by omega
 obtain⟨cs2,g2,rfl,rfl,rfl,hp2,-⟩:=OX.one (H.x 0);obtain⟨A3,c4,rfl,-⟩:=hp2;refine zN ?_;clear H;intro u3 H;have ez:=(OX.ft (H.x 0)).2.2.2;refine zXZ (tg [w.heap.size,g2]) ?_;clear H;intro S w4 hne H;refine zD (H.c 4) ?_;intro G;have r0:=H.row (show World.cell? _ ⟨g2,0,none⟩=some (.int .i64 kd) from(OX.ft (H.x 0)).2.2.1 0 (by decide))
 have r1:=H.row (show World.cell? _ ⟨g2,1,none⟩=some (.slice A3 P.length c4) from(OX.ft (H.x 0)).2.2.1 1 (by decide))
 refine yM ?_;clear H;intro w5 H;have e2:=OX.ft (H.x 1);have hx:=e2.1;have hf:=e2.2.1.mono (Nat.zero_le _:(fI w).heap.size<=_);have hng:blk A≠some g2:=fun e=>by refine H.H.noo 6 1 g2 ?_ ?_;exact Or.inl e;exact Or.inl rfl
 replace H:=((H.r 1).r 6);refine yX (an4 zY hx hf (fun i hi=>Or.inr hi)) ?_;clear H e2 hx hf hng;intro g1 k1 w6 H
 intros;refine zCr ?_;intro C;intros
 repeat (first|(refine lc' ?_;intro K hK;go_big_quiet_op;go_big_quiet_on)|refine lk' ?_)
 refine aV rfl (by rfl) (by rfl) (fun K hK=>?_)
 unfold Oper.gives
 go_simp
 refine hK _ _ ?_;replace H:=H.H;refine aI ?_;clear C G;refine zS_ ?_;clear H;intro u7 H
 exact(by obtain⟨h1,h2⟩:=Hq.rsX HOX.out HBW.out (((((H.d 1).d 1).d 1).d 1).d 1);rw[HPA.out];exact⟨⟨some ⟨g1,0,none⟩,k1,_,_,by dsimp only;rw[hll];rfl,by dsimp only;rw[hll];exact h1⟩,h2⟩)
theorem jR {kd s:Int} {net:List SL} {ms:List Mx} (h4:net.length<=4) (hs:sdB s=true) {base c c2:Nat} {A B:Option Addr} {css:List (List Value)} {F FM:List Nat} (w:World) (hbw:base<=w.heap.size) (hox:OX (kE smE) w base 99 A net.length c css net F) (hms:RI mxE w B ms.length c2 ms FM) (hmS:∀ m,m∈ms->mS m) (hml:ms.length<=1048576) :
  Calls prog 44 #[.agg #[.slice A net.length c,.int .i64 s],.agg #[.int .i64 kd,.slice B ms.length c2]] w (AdR base A c css F net s (dI kd ms net s) w):=by
 cases hl:aL kd ms
 ·exact qE hl hs w hbw hox hms hmS hml
 ·by_cases h:net.length<4
  ·exact sC hl h hs w hbw hox hms hmS hml
  ·exact Gh hl (by omega) hs w hbw hox hms hmS hml
end
def wk (v:List Int) (C n k:Nat):List UInt8:=fx (v.getD k 0)++(if (k+1)%C=0/\k+1<n then [59] else [])
theorem xS (v:List Int) (C n:Nat):∀ j,1<=j->j<=n->Lib.join ((List.range j).map (wk v C n)) [32]=st v C j++(if j%C=0/\j<n then [59] else []):=by
 intro j
 induction j with
 | zero=>intro h;omega
 | succ j ih =>
  intro _ hj;rw[List.range_succ,List.map_append,List.map_cons,List.map_nil]
  by_cases h0:j=0
  ·subst h0
   simp[Lib.join_one,wk,st]
  ·have hne:(List.range j).map (wk v C n)≠[]:=by
    intro h;have:=congrArg List.length h
    simp at this
    omega
   rw[fo hne,ih (by omega) (by omega),st,wk,if_neg h0]
   by_cases hm:j%C=0
   ·rw[if_pos ⟨hm,by omega⟩,if_pos hm];simp[List.append_assoc]
   ·rw[if_neg (fun h=>hm h.1),if_neg hm];simp[List.append_assoc]
theorem Bk (v:List Int) (C n k:Nat):(32:UInt8)∉wk v C n k:=by
 unfold wk;intro h;rcases List.mem_append.1 h with h|h
 ·exact pY _ (.inl rfl) h
 ·split at h
  ·exact absurd h (by decide)
  ·cases h
theorem sE {v:List Int} {R C:Nat} (R1:1<=R) (C1:1<=C) (hl:v.length=R*C):Lib.split (mtx v R C) [32]=(List.range (R*C)).map (wk v C (R*C)):=by
 have hn:1<=R*C:=Nat.mul_pos R1 C1;have h:=xS v C (R*C) (R*C) hn Ql;rw[if_neg (by omega),List.append_nil,uz v C C1 R (by omega)] at h
 rw[<-h];refine kV (fun e=>?_) fun x hx=>?_
 ·have:=congrArg List.length e
  simp at this
  omega
 ·obtain⟨y,_,rfl⟩:=List.mem_map.1 hx
  exact Bk v C _ y
def ed (w:List UInt8):Bool:=decide (w.getLast?=some 59)
def sw (w:List UInt8):List UInt8:=if ed w=true then w.dropLast else w
theorem yV (x:Int):ed (fx x)=false:=by
 unfold ed;rw[decide_eq_false_iff_not];intro h
 exact pY x (.inr rfl) (List.mem_of_getLast? h)
theorem pT (l:List UInt8):ed (l++[59])=true:=by simp[ed]
theorem Cf (x:Int):sw (fx x)=fx x:=by unfold sw;rw[yV];rfl
theorem uA (l:List UInt8):sw (l++[59])=l:=by unfold sw;rw[if_pos (pT l)];simp
def Ex (l:List UInt8) (k:Nat) (vs:List Int) (ro ga:Nat):Prop:=∀ m,mvB m=true->mt m=l->∃ R C:Nat,m.r=(R:Int)/\m.c=(C:Int)/\vs=m.v.take k/\ro=1+min (k/C) (R-1)/\ga=min k C
theorem Ex.start (l:List UInt8):Ex l 0 [] 1 0:=fun m hm _=>by
 obtain⟨R,C,hr,hc,R1,R5,C1,C5,hl,h25,hall⟩:=er hm
 exact⟨R,C,hr,hc,by simp,by simp,by simp⟩
theorem qQ {l:List UInt8} {m:Mx} (hm:mvB m=true) (hl:mt m=l) {k:Nat} (hk:k<(Lib.split l [32]).length):∃ R C:Nat,m.r=(R:Int)/\m.c=(C:Int)/\1<=R/\1<=C/\m.v.length=R*C/\R*C<=25/\k<R*C/\(Lib.split l [32]).length=R*C/\(0<=m.v.getD k 0/\m.v.getD k 0<=4095)/\(Lib.split l [32]).getD k []=wk m.v C (R*C) k:=by
 obtain⟨R,C,hr,hc,R1,R5,C1,C5,hlen,h25,hall⟩:=er hm;have e:Lib.split l [32]=(List.range (R*C)).map (wk m.v C (R*C)):=by rw[<-hl,l_ hm hr hc,sE R1 C1 hlen]
 rw[e] at hk ⊢;have hk2:k<R*C:=by simpa using hk
 exact⟨R,C,hr,hc,R1,C1,hlen,h25,hk2,by simp,sQ hall (by omega),by simp[List.getD_eq_getElem?_getD,hk2]⟩
theorem E8 (v:List Int) (C n k:Nat):sw (wk v C n k)=fx (v.getD k 0)/\ed (wk v C n k)=decide ((k+1)%C=0/\k+1<n):=by
 unfold wk
 by_cases h:(k+1)%C=0/\k+1<n
 ·rw[if_pos h,decide_eq_true h]
  exact⟨uA _,pT _⟩
 ·rw[if_neg h,decide_eq_false h,List.append_nil]
  exact⟨Cf _,yV _⟩
theorem Gj {k C:Nat} (hC:1<=C):(k+1)/C=if (k+1)%C=0 then k/C+1 else k/C:=by
 rw[Nat.succ_div]
 by_cases h:(k+1)%C=0
 ·rw[if_pos h,if_pos (Nat.dvd_of_mod_eq_zero h)]
 ·rw[if_neg h,if_neg (fun hd=>h (Nat.mod_eq_zero_of_dvd hd)),Nat.add_zero]
theorem Ex.step {l:List UInt8} {k ro ga:Nat} {vs:List Int} {x:Int} (h:Ex l k vs ro ga) (hk:k<(Lib.split l [32]).length) (hx:RF (sw ((Lib.split l [32]).getD k [])) x true):Ex l (k+1) (vs++[x]) (if ed ((Lib.split l [32]).getD k [])=true then ro+1 else ro) (if ro=1 then k+1 else ga):=fun m hm hl=>by
 obtain⟨R,C,hr,hc,R1,C1,hlen,h25,hk2,_,hrv,hw⟩:=qQ hm hl hk;obtain⟨R',C',hr',hc',hvs,hro,hga⟩:=h m hm hl;obtain rfl:R'=R:=by omega
 obtain rfl:C'=C:=by omega
 obtain⟨hs,he⟩:=E8 m.v C' (R'*C') k;rw[hw,hs] at hx;obtain⟨hx1,hx2⟩:=hx.num;have hxe:x=m.v.getD k 0:=vT hx1 hrv hx2;refine⟨R',C',hr,hc,?_,?_,?_⟩
 ·rw[hvs,hxe,List.take_succ_eq_append_getElem (by omega),eX _ _ (by omega)]
 ·rw[hw,he,hro,Gj C1];have hd:k/C'<R':=by rw[Nat.div_lt_iff_lt_mul (by omega)];exact hk2
  by_cases hm0:(k+1)%C'=0
  ·rw[if_pos hm0];have hq:(k+1)/C'=k/C'+1:=by rw[Gj C1,if_pos hm0]
   have hmul:C'*((k+1)/C')=k+1:=Nat.mul_div_cancel' (Nat.dvd_of_mod_eq_zero hm0);rw[hq] at hmul
   by_cases hlast:k+1<R'*C'
   ·rw[decide_eq_true ⟨hm0,hlast⟩,if_pos rfl];have:k/C'+1<R':=by
     rcases Nat.lt_or_ge (k/C'+1) R' with h|h
     ·exact h
     ·exfalso
      have:=Nat.mul_le_mul_left C' h;rw[hmul,Nat.mul_comm] at this
      omega
    omega
   ·rw[decide_eq_false (fun h=>hlast h.2),if_neg (by decide)]
    have:R'<=k/C'+1:=by
     rcases Nat.lt_or_ge (k/C'+1) R' with h|h
     ·exfalso
      have:=Nat.mul_lt_mul_of_pos_left h (show 0<C' by omega)
      rw[hmul,Nat.mul_comm] at this
      omega
     ·exact h
    omega
  ·rw[if_neg hm0,decide_eq_false (fun h=>hm0 h.1),if_neg (by decide)]
 ·rw[hro,hga]
  by_cases hkC:k<C'
  ·have:k/C'=0:=Nat.div_eq_of_lt hkC;rw[if_pos (by omega)]
   omega
  ·have h1:1<=k/C':=(Nat.one_le_div_iff (by omega)).2 (by omega)
   have h2:2<=R':=by
    rcases Nat.lt_or_ge R' 2 with h|h
    ·exfalso
     have:R'=1:=by omega
     subst this
     omega
    ·exact h
   rw[if_neg (by omega)]
   omega
theorem Ex.E9 {l:List UInt8} {k ro ga:Nat} {vs:List Int} {x:Int} (h:Ex l k vs ro ga) (hk:k<(Lib.split l [32]).length) (hx:RF (sw ((Lib.split l [32]).getD k [])) x false):RMp l Mx.z false:=RMp.no fun m hm hl=>by
 obtain⟨R,C,hr,hc,R1,C1,hlen,h25,hk2,_,hrv,hw⟩:=qQ hm hl hk;rw[hw,(E8 m.v C (R*C) k).1] at hx;rcases hx with⟨hx,_⟩|⟨_,_,hx⟩
 ·cases hx
 ·exact hx _ hrv.1 hrv.2 rfl
theorem Ex.Bv {l:List UInt8} {k ro ga:Nat} {vs:List Int} (h:Ex l k vs ro ga) (hk:k<(Lib.split l [32]).length) (hn:25<=vs.length):RMp l Mx.z false:=RMp.no fun m hm hl=>by
 obtain⟨R,C,hr,hc,R1,C1,hlen,h25,hk2,_,hrv,hw⟩:=qQ hm hl hk;obtain⟨_,_,_,_,hvs,_,_⟩:=h m hm hl;rw[hvs,List.length_take] at hn
 omega
theorem Ex.full {l:List UInt8} {ro ga:Nat} {vs:List Int} (h:Ex l (Lib.split l [32]).length vs ro ga) {m:Mx} (hm:mvB m=true) (hl:mt m=l):m=⟨(ro:Int),(ga:Int),vs⟩:=by
 obtain⟨R,C,hr,hc,hvs,hro,hga⟩:=h m hm hl;obtain⟨R',C',hr',hc',R1,R5,C1,C5,hlen,h25,hall⟩:=er hm;obtain rfl:R'=R:=by omega
 obtain rfl:C'=C:=by omega
 have e:(Lib.split l [32]).length=R'*C':=by rw[<-hl,l_ hm hr hc,sE R1 C1 hlen];simp
 rw[e] at hvs hro hga;rw[List.take_of_length_le (by omega)] at hvs
 have h1:R'*C'/C'=R':=Nat.mul_div_cancel _ (by omega)
 rw[h1] at hro;have h2:C'<=R'*C':=Nat.le_mul_of_pos_left _ (by omega)
 have e1:ro=R':=by omega
 have e2:ga=C':=by omega
 obtain⟨a,b,c⟩:=m
 dsimp only at hr hc hvs
 rw[hr,hc,hvs,e1,e2]
theorem Ex.fail {l:List UInt8} {ro ga:Nat} {vs:List Int} (h:Ex l (Lib.split l [32]).length vs ro ga) (hb:mvB ⟨(ro:Int),(ga:Int),vs⟩=false\/mt ⟨(ro:Int),(ga:Int),vs⟩≠l):RMp l Mx.z false:=RMp.no fun m hm hl=>by
 have e:=h.full hm hl;rw[e] at hm hl;rcases hb with hb|hb
 ·rw[hb] at hm;cases hm
 ·exact hb hl
def E1 (t:List UInt8) (k:Nat) (n:Int):Prop:=k<=t.length/\k<=4/\(t.take k).all isD=true/\n=vl (t.take k)
def Stop (t:List UInt8) (k:Nat):Prop:=∀ h:k<t.length,k<4->isD t[k]=false
theorem E1.start (t:List UInt8):E1 t 0 0:=⟨Nat.zero_le _,by omega,rfl,rfl⟩
theorem E1.step {t:List UInt8} {k:Nat} {n:Int} (h:E1 t k n) (hk:k<t.length) (h4:k<4) (hd:isD t[k]=true):E1 t (k+1) (n*10+((t[k].toNat:Int)-48)):=by
 obtain⟨_,_,h1,h2⟩:=h;have:=uC hk h1 hd
 exact⟨hk,h4,this.1,by rw[this.2,h2]⟩
theorem E1.bd {t:List UInt8} {k:Nat} {n:Int} (h:E1 t k n):0<=n/\n<=99999999:=by
 obtain⟨h1,h2,h3,h4⟩:=h;rw[h4]
 exact jS h1 (by omega) h3
theorem qK {a b t:List UInt8} {k:Nat} {n:Int} (ht:t=a++b) (ha:a.all isD=true) (hl:a.length<=4) (hb:∀ c b',b=c::b'->isD c=false) (h:E1 t k n) (hs:Stop t k):k=a.length/\n=vl a:=by
 obtain⟨h1,h2,h3,h4⟩:=h;have hk:k=a.length:=by
  rcases Nat.lt_trichotomy k a.length with hlt|he|hgt
  ·exfalso
   have hlt2:k<t.length:=by rw[ht,List.length_append];omega
   have h5:=hs hlt2 (by omega)
   have e:t[k]=a[k]:=by subst ht;exact List.getElem_append_left hlt
   rw[e] at h5;rw[List.all_eq_true] at ha;rw[ha _ (List.getElem_mem hlt)] at h5
   cases h5
  ·exact he
  ·exfalso
   cases b with
   | nil=>rw[ht,List.append_nil] at h1;omega
   | cons c b' =>
    have hc:=hb c b' rfl;rw[List.all_eq_true] at h3;have hm:c∈t.take k:=by
     rw[ht,List.take_append];apply List.mem_append_right
     have e:k-a.length=(k-a.length-1)+1:=by omega
     rw[e,List.take_succ_cons]
     exact List.mem_cons_self ..
    rw[h3 _ hm] at hc
    cases hc
 refine⟨hk,?_⟩;rw[h4,ht,hk,List.take_left]
def E2 (D:List UInt8) (j:Nat) (p sc:Int):Prop:=∃ n,E1 D j n/\p=n*sc/\sc=10 ^ (4-j)
theorem E2.start (D:List UInt8):E2 D 0 0 10000:=⟨0,E1.start D,by omega,by decide⟩
theorem E2.sc {D:List UInt8} {j:Nat} {p sc:Int} (h:E2 D j p sc) (hj:j<4):∃ s2,sc/10=s2/\sc=10*s2/\s2=10 ^ (4-(j+1))/\1<=s2/\s2<=1000:=by
 obtain⟨n,_,_,h3⟩:=h;have:j=0\/j=1\/j=2\/j=3:=by omega
 rcases this with rfl|rfl|rfl|rfl <;> (simp at h3;subst h3) <;> exact⟨_,rfl,by decide,by decide,by decide,by decide⟩
theorem E2.step {D:List UInt8} {j:Nat} {p sc s2:Int} (h:E2 D j p sc) (hk:j<D.length) (h4:j<4) (hd:isD D[j]=true) (h1:sc=10*s2) (h2:s2=10 ^ (4-(j+1))):E2 D (j+1) (p+s2*((D[j].toNat:Int)-48)) s2:=by
 obtain⟨n,e,hp,_⟩:=h;refine⟨_,e.step hk h4 hd,?_,h2⟩;rw[hp,h1,Int.add_mul,Int.mul_assoc n 10 s2,Int.mul_comm s2 (_-_)]
theorem E2.bd {D:List UInt8} {j:Nat} {p sc:Int} (h:E2 D j p sc):0<=p/\p<=999999990000/\1<=sc/\sc<=10000:=by
 obtain⟨n,e,hp,h3⟩:=h;have hb:=e.bd;have hj:j<=4:=e.2.1;have:j=0\/j=1\/j=2\/j=3\/j=4:=by omega
 rcases this with rfl|rfl|rfl|rfl|rfl <;> (simp at h3;subst h3) <;> omega
def E3 (t:List UInt8) (y:Int):Prop:=∃ k n,E1 t k n/\Stop t k/\((t[k]?≠some 46/\y=n*16)\/(t[k]?=some 46/\∃ j p sc,E2 (t.drop (k+1)) j p sc/\Stop (t.drop (k+1)) j/\y=n*16+p/625))
theorem Cy:∀ r:Fin 16,(fd r.val).all isD=true/\vl (fd r.val)*10 ^ (4-(fd r.val).length)=(r.val:Int)*625:=by decide
theorem E3.fin {m y:Int} (h0:0<=m) (h1:m<=4096) (h:E3 (fxn m) y):y=m:=by
 obtain⟨k,n,he,hs,hy⟩:=h;have hl:=q_ (m:=m/16) (by omega)
 by_cases hz:m%16=0
 ·have ht:fxn m=dec (m/16)++[]:=by unfold fxn;rw[if_pos hz]
  obtain⟨hk,hn⟩:=qK ht (vR _) (by omega) (fun c b' e=>by cases e) he hs
  rw[tG (by omega)] at hn
  have hnone:(fxn m)[k]?=none:=by rw[ht,List.append_nil,hk];exact List.getElem?_eq_none Ql
  rcases hy with⟨_,hy⟩|⟨hy,_⟩
  ·omega
  ·rw[hnone] at hy;cases hy
 ·have ht:fxn m=dec (m/16)++46::fd (m%16).toNat:=by unfold fxn;rw[if_neg hz]
  obtain⟨hk,hn⟩:=qK ht (vR _) (by omega) (fun c b' e=>by injection e with e _;rw[<-e];rfl) he hs
  rw[tG (by omega)] at hn
  have hsome:(fxn m)[k]?=some 46:=by rw[ht,hk];simp
  rcases hy with⟨hy,_⟩|⟨_,j,p,sc,⟨n2,e1,hp,hsc⟩,hs2,hy⟩
  ·exact absurd hsome hy
  ·have hD:(fxn m).drop (k+1)=fd (m%16).toNat++[]:=by rw[ht,hk,List.append_nil];simp
   have hfd:=Cy ⟨(m%16).toNat,by omega⟩
   have hfl:=pV ⟨(m%16).toNat,by omega⟩
   dsimp only at hfd hfl
   obtain⟨hj,hn2⟩:=qK hD hfd.1 hfl (fun c b' e=>by cases e) e1 hs2
   rw[hp,hn2,hsc,hj,hfd.2] at hy
   omega
theorem xN {x:Int} {t:List UInt8} (h:fx x=45::t):sgn x<0/\t=fxn (-(sgn x)):=by
 unfold fx fxs at h
 split at h
 ·rename_i hn
  injection h with _ h
  exact⟨hn,h.symm⟩
 ·obtain⟨d,r,e,hd⟩:=nr (sgn x);rw[e] at h;injection h with h _;rw[h] at hd
  exact absurd hd (by decide)
theorem xO {x:Int} {b:UInt8} {t:List UInt8} (h:fx x=b::t) (hb:b≠45):¬sgn x<0/\b::t=fxn (sgn x):=by
 unfold fx fxs at h
 split at h
 ·injection h with h _
  exact absurd h.symm hb
 ·rename_i hn
  exact⟨hn,h.symm⟩
theorem RF.noS {l:List UInt8} {v:Int} (hv:∀ x,0<=x->x<=4095->fx x=l->v=x) (hne:fx v≠l):RF l 0 false:= .inr ⟨rfl,rfl,fun x h0 h1 e=>hne (by rw[hv x h0 h1 e];exact e)⟩
theorem E3.neg {l t:List UInt8} {y:Int} (hl:l=45::t) (h:E3 t y):∀ x,0<=x->x<=4095->fx x=l->(-y)%4096=x:=fun x h0 h1 e=>by
 obtain⟨hn,ht⟩:=xN (e.trans hl);have hb:=jf x;rw[ht] at h;have:=h.fin (by omega) (by omega)
 have h3:=qI h0 h1
 omega
theorem E3.pos {l t:List UInt8} {b:UInt8} {y:Int} (hl:l=b::t) (hb:b≠45) (h:E3 l y):∀ x,0<=x->x<=4095->fx x=l->y%4096=x:=fun x h0 h1 e=>by
 obtain⟨hn,ht⟩:=xO (e.trans hl) hb;have hbd:=jf x;rw[hl,ht] at h;have:=h.fin (by omega) (by omega)
 have h3:=qI h0 h1
 omega
end Go.Proofs.YtjciicheoghcdaaGreatDoor
