/- Part of the proof that the law FnExactServiceRun of the given program returns true for every input. -/
import Derived.SliceStrings
import Derived.Test.YtjciicheoghcdaaGreatDoorYC
import Derived.Test.YtjciicheoghcdaaGreatDoorYD
import Derived.Test.YtjciicheoghcdaaGreatDoorYE
import Derived.Test.YtjciicheoghcdaaGreatDoorYK
import Derived.Test.YtjciicheoghcdaaGreatDoorYO
namespace Go.Proofs.YtjciicheoghcdaaGreatDoor
open Go.RowKit
set_option linter.unusedSimpArgs false
set_option linter.unusedVariables false
set_option maxRecDepth 20000
set_option maxHeartbeats 16000000
section
attribute [local go_sem] af ah ae
theorem Dc {v:Value}:∀ {css:List (List Value)} {j:Nat},(∀ cs,cs∈css->cs.length=1)->css.flatten.set j v=(css.set j [v]).flatten
 | [],_,_=>by simp
 | cs::css,0,h=>by
  have h1:=h cs (List.mem_cons_self ..)
  match cs,h1 with
  | [a],_=>simp
 | cs::css,j+1,h=>by
  have h1:=h cs (List.mem_cons_self ..)
  match cs,h1 with
  | [a],_ =>
   have:=Dc (v:=v) (css:=css) (j:=j) fun c hc=>h c (List.mem_cons_of_mem _ hc)
   simpa using this
theorem Dl {w0 w:World} {L:List Ow} {T:TypeId} {g n c j:Nat} {css:List (List Value)} {xs:List (List UInt8)} {F:List Nat} {x:List UInt8} (H:Hq w0 (qX txE w0.heap.size T (some ⟨g,0,none⟩) n c css xs F::L) w) (hx:xs[j]?=some x) (a:List UInt8):Hq w0 (qX txE w0.heap.size T (some ⟨g,0,none⟩) n c (css.set j [.string (bs a)]) (xs.set j a) F::L) (w.setCell ⟨g,j,none⟩ (.string (bs a))):=by
 have U:UpL (fun i=>i=g) w (w.setCell ⟨g,j,none⟩ (.string (bs a))):=UpL.refl.Bc _ _ fun _=>rfl
 have K:=H.ul U fun i hi=> .inl (by rw [hi];rfl)
 obtain ⟨h1,h2,h3,h4,h5⟩:=H.S.1;have hgF:=h5 g rfl;obtain ⟨cs,F1,F2,F3,e1,e2,e3,e4⟩:=h3.focus hx;have hk:∀ i,i∈F->(w.setCell ⟨g,j,none⟩ (.string (bs a))).heap[i]?=w.heap[i]?:=fun i hi=>Below.heap_setCell _ _ _ i fun e=>hgF (by have e:i=g:=e;rw [<- e];exact hi)
 have P:OX txE (w.setCell ⟨g,j,none⟩ (.string (bs a))) w0.heap.size T (some ⟨g,0,none⟩) n c (css.set j [.string (bs a)]) (xs.set j a) F:=⟨by rw [<- Dc h3.lens];exact h1.store j _,by rw [List.length_set];exact h2,e4 _ _ _ (fun i hi=>hk i (by rw [e2];exact (List.mem_append.1 hi).elim (fun h=>by simp [h]) (fun h=>by simp [h]))) ⟨rfl,e3.2⟩,h4.au hk,h5⟩
 refine ⟨⟨P,H.S.2.1,K.S⟩,fun d hd i hi=> ?_,K.O⟩
 rcases List.mem_cons.1 hd with rfl | hd
 ·exact H.B _ (List.mem_cons_self ..) i hi
 ·exact K.B d hd i hi
theorem Da (w:World):∀ n:Nat,dJ txE w (List.replicate n [.string (bs [])]) (List.replicate n []) []
 | 0=>rfl
 | n+1=>⟨[],[],rfl,⟨rfl,rfl⟩,Da w n⟩
theorem OX.blank (w:World) (n:Nat) (hn:n<=35184372088832):OX txE (w.alloc (.cells (madeCells #[.string (bs [])] n) 9)) w.heap.size 9 (some ⟨w.heap.size,0,none⟩) n n (List.replicate n [.string (bs [])]) (List.replicate n []) []:=by
 have h:=World.ownsRow_lit (base:=w.heap.size) (e:=9) (size:=1) w (madeCells #[.string (bs [])] n) n (Nat.le_refl _) (by unfold maxLen;omega) (by simp [size_madeCells])
 have e:(madeCells #[.string (bs [])] n).toList=(List.replicate n [Value.string (bs [])]).flatten:=by rw [toList_madeCells_one];simp
 rw [e] at h
 exact ⟨h,by simp,Da _ n,Fr.nil _ _,fun g _ hg=>by cases hg⟩
theorem Dg {n k:Nat} {p:List (List UInt8)} {a:List UInt8} (hp:p.length=k) (hk:k<n):(p++List.replicate (n-k) []).set k a=(p++[a])++List.replicate (n-(k+1)) []:=by
 rw [List.set_append_right _ _ (by omega),hp,Nat.sub_self,show n-k=(n-(k+1))+1 by omega,List.replicate_succ,List.set_cons_zero]
 simp
def RnN (w:World) (e:Ending) (w':World):Prop:=e= .returned (.tuple #[.agg #[.slice none 0 0,.int .i64 0],.slice none 0 0])/\Below w.heap.size w w'
theorem CO {net:List SL} {s:Int} {n:Nat} (hv:svB (net,s)=false\/20<n) (hss:svS (net,s)) {A B:Option Addr} {cap cB:Nat} {F:List Nat} (w:World) (hx:RI (kE smE) w A net.length cap net F) :
  Calls Tryz.prog 25 #[.agg #[.slice A net.length cap,.int .i64 s],.slice B n cB] w (RnN w):=by
 have HSS:=Lib.hid hss;have HX:=Lib.hid hx;clear hss hx
 cases hs:svB (net,s)
 ·have HSV:=Lib.hid hs;clear hv hs;refine zE ?_;intro u1 H;refine zG (iM u1 [.slice A net.length cap,.int .i64 s] (net,s) F ⟨A,cap,rfl,HX.out.below H.O⟩ HSS.out) ?_;rintro e w2 ⟨rfl,hb⟩;replace H:=H.b hb;rw [HSV.out];clear hb;refine zS_ ?_;clear H;intro u3 H
  exact ⟨rfl,H.O⟩
 ·have HSV:=Lib.hid hs;have h20:(20:Int)<(n:Int):=by rcases hv with h | h;rw [hs] at h;cases h;omega
  clear hv hs;refine zE ?_;intro u1 H;refine zG (iM u1 [.slice A net.length cap,.int .i64 s] (net,s) F ⟨A,cap,rfl,HX.out.below H.O⟩ HSS.out) ?_;rintro e w2 ⟨rfl,hb⟩;replace H:=H.b hb;rw [HSV.out];clear hb;refine zS_ ?_;clear H;intro u3 H
  exact ⟨rfl,H.O⟩
theorem CX {net:List SL} {s:Int} (h:jO net s) {ls:List (List UInt8)} {n:Nat} (hn:n<=20) (hl:∀ l,l∈ls->l.length<=1048576) {A B:Option Addr} {cap cB:Nat} {F FB:List Nat} (w:World) (ht:Tab w) (hm:iD w) (hx:RI (kE smE) w A net.length cap net F) (hls:RI txE w B n cB ls FB) :
  Calls Tryz.prog 25 #[.agg #[.slice A net.length cap,.int .i64 s],.slice B n cB] w (RnP net s ls w):=by
 have h20:(n:Int)<=20:=by omega
 have HSV:Hid (svB (net,s)=true):=by unfold Hid svB;rw [h.1,h.2];rfl
 have HSS:Hid (svS (net,s)):=mg h.1;have HS:=Lib.hid h;have HLN:=Lib.hid hls.1;have HLS:=Lib.hid hl;have HLX:=Lib.hid hls;have HT:=Lib.hid ht;have HM:=Lib.hid hm;have HX:=Lib.hid hx;clear h hl ht hm hx hls;refine zE ?_;intro u1 H;refine zG (iM u1 [.slice A net.length cap,.int .i64 s] (net,s) F ⟨A,cap,rfl,HX.out.below H.O⟩ HSS.out) ?_;rintro e w2 ⟨rfl,hb⟩;replace H:=H.b hb;rw [HSV.out];clear hb;refine zN ?_;clear H;intro u3 H;refine zG (bg HS.out.1 u3 (HX.out.below H.O)) ?_;rintro e w4 ⟨AC,cC,cssC,FC,rfl,hox,hb⟩;replace H:=H.ox hb hox;clear hox hb;refine zC ?_;intro C;intros;have hmk:=ui n (by omega) (w4.alloc (.cells #[.slice AC net.length cC,.int .i64 s] 25))
 go_wp2;clear hmk;refine nqW (Hq.ox (Hq.al (t:=25) (cs:=[.slice AC net.length cC,.int .i64 s]) H rfl) ((Below.refl _ _).alloc (Nat.le_refl _) _) (OX.blank _ n (by omega))) ?_;clear H C;intro u5 H
 obtain ⟨gY,hgY⟩:∃ g,g=w4.heap.size:=⟨_,rfl⟩;simp only [World.size_alloc] at H;obtain ⟨go,hgo⟩:∃ g,g=w4.heap.size+1:=⟨_,rfl⟩;rw [<- hgo,<- hgY] at H ⊢;clear hgY hgo;replace H:=(((((H.r 4).r 4).r 3).r 4).r 4);intros
 go_loopw [26] (fun i wr=>∃ (k:Nat) (yq:Rns) (AN:Option Addr) (cN:Nat) (cssN:List (List Value)) (FN:List Nat) (dss:List (List Value)) (G:List Nat),k<=n/\i= .int .i64 k/\Hid (rnF net s (ls.take k)=yq/\jO yq.1.1 yq.1.2)/\Hid (Hq w [qX txE w.heap.size 9 (some ⟨go,0,none⟩) n n dss (yq.2++List.replicate (n-k) []) G,qX (kE smE) w.heap.size 99 AN yq.1.1.length cN cssN yq.1.1 FN,qB gY 25 [.slice AN yq.1.1.length cN,.int .i64 yq.1.2],qB (w.heap.size+1) 25 [.slice none 0 0,.int .i64 0],qB w.heap.size 25 [.slice A net.length cap,.int .i64 s]] wr)) (fun i _=>n-(intOf i).toNat)
 case atStart=>exact ⟨0,((net,s),[]),_,_,_,_,_,_,Nat.zero_le _,rfl,⟨rfl,HS.out⟩,H⟩
 case round =>
 clear H;obtain ⟨k,yq,AN,cN,cssN,FN,dss,G,hk,rfl,HQ,H⟩:=hrel;have H:=H.out
 by_cases hlt:k<n
 ·obtain ⟨l,hl,hmem⟩:=aH (xs:=ls) (j:=k) (by rw [HLN.out];exact hlt)
  have HLI:=Lib.hid hl;have HLL:=Lib.hid (HLS.out l hmem);obtain ⟨b,off,cs,F8,rfl,hb9,hc9,_,hcs⟩:=HLX.out.cells hl 1 rfl;obtain ⟨rfl,-⟩:=hcs;have hc0:wr.cell? ⟨b,off+k,none⟩=some (.string (bs l)):=(H.O.cell (p:=⟨b,off+k,none⟩) hb9).trans (by have:=hc9 0 (by omega);simpa using this)
  have zb:=Nat.lt_of_lt_of_le hb9 H.m;have k0:(0:Int)<=(k:Int):=by omega
  have k1:(k:Int)<(n:Int):=by omega
  clear hl hmem hc9 hb9;refine zN ?_;clear H;intro u21 H;obtain ⟨F9,hri,-⟩:=OX.rf (H.x 1);refine zG (mz HQ.out.2 HLL.out u21 (HT.out.below H.O (Nat.le_refl _)) (HM.out.below H.O (Nat.le_refl _)) hri) ?_;rintro e w22 ⟨r,A5,c5,css5,F5,hL,rfl,hox,hb⟩;replace H:=H.ox hb hox;have HL5:=Lib.hid hL;clear hL hox hb hri;replace H:=H.d 2;replace H:=H.r 1;have hgg:go≠gY:=fun e=>Hq.nbx H (h0:=gY) (by repeat (with_reducible first | exact Has.h0 | apply Has.t0)) (by rw [e];rfl)
  have hgf:=VO.frozen (H.x 0).1 k;have hgc:=VO.cell (H.x 0).1 k (by show k<n*1;omega)
  have hgl:∃ z,dss.flatten[k]?=some z:=⟨_,List.getElem?_eq_getElem (by rw [VO.len (H.x 0).1];show k<n*1;omega)⟩
  obtain ⟨z,hz⟩:=hgl;rw [hz] at hgc;have hgb:=(VO.aj (H.x 0).1 go rfl).2;have hql:yq.2.length=k:=by rw [<- HQ.out.1,CW,List.length_take,HLN.out];omega
  have hq2:(yq.2++List.replicate (n-k) ([]:List UInt8))[k]?=some []:=by rw [List.getElem?_append_right (by omega),hql,Nat.sub_self,List.getElem?_replicate,if_pos (by omega)]
  have H2:=fun v0 v1=>Dl (j:=k) (Hq.st (v:=v1) (Hq.st (v:=v0) H (i:=0) (g:=gY) (by repeat (with_reducible first | exact dq.z0 | apply dq.s0 | apply Upd.h0 | apply Upd.o0 | apply Upd.t0))) (i:=1) (g:=gY) (by repeat (with_reducible first | exact dq.z0 | apply dq.s0 | apply Upd.h0 | apply Upd.o0 | apply Upd.t0))) hq2 r.2
  refine zC ?_;intro C;intros;have HH:=Lib.hid H2;have HQL:=Lib.hid hql;clear H2 hql hq2 H;go_wp2
  go_roundw
  case rel=>exact ⟨k+1,(r.1,yq.2++[r.2]),A5,c5,css5,F5,_,_,by omega,by go_num,⟨Dh HQ.out.1 HLI.out HL5.out,HL5.out.ok HQ.out.2⟩,by have h:=HH.out (.slice A5 r.1.1.length c5) (.int .i64 r.1.2);rw [Dg HQL.out hlt] at h;exact h⟩
  case measure=>simp [intOf];omega
 ·obtain rfl:k=n:=by omega
  have hal:ls.take k=ls:=List.take_of_length_le (by rw [HLN.out];exact Nat.le_refl _)
  have HRN:Hid (rnF net s ls=yq):=by have h:=HQ.out.1;rwa [hal] at h
  have hql:yq.2.length=k:=by rw [<- HRN.out,CW,HLN.out]
  rw [Nat.sub_self,List.replicate_zero,List.append_nil] at H;clear hal;subst hql;refine zS_ ?_;clear H;intro u41 H
  exact ⟨yq,AN,cN,cssN,FN,some ⟨go,0,none⟩,_,dss,G,HRN.out,HQ.out.2,rfl,(H.x 1),(H.x 0),Sp.apart (i:=1) (j:=0) H.S rfl rfl (by decide),H.O⟩
end
section
attribute [local go_sem] af ah ae
theorem Dt {α:Type} (E:Elt α) {w0 w:World} {L:List Ow} {T:TypeId} {g:Nat} (H:Hq w0 (qB g T []::L) w):Hq w0 (qX E w0.heap.size T (some ⟨g,0,none⟩) 0 0 [] [] []::L) w:=by
 have hb:=H.B _ (List.mem_cons_self ..) g rfl;have P:OX E w w0.heap.size T (some ⟨g,0,none⟩) 0 0 [] [] []:=⟨⟨by simp,.inr ⟨g,0,#[],rfl,hb,H.S.1,Nat.le_refl _,by unfold maxLen;omega,by simp,by simp⟩⟩,rfl,rfl,Fr.nil _ _,fun _ _ h=>by cases h⟩
 have hi0:∀ i,(qX E w0.heap.size T (some ⟨g,0,none⟩) 0 0 [] [] []).F i->(qB g T []).F i:=fun i hi=>hi.elim (fun e=>(Option.some.inj e).symm) (fun e=>by cases e)
 refine ⟨⟨P,fun i hi e he hei=>H.S.2.1 i (hi0 i hi) e he hei,H.S.2.2⟩,fun d hd i hi=> ?_,H.O⟩
 rcases List.mem_cons.1 hd with rfl | hd
 ·exact H.B _ (List.mem_cons_self ..) i (hi0 i hi)
 ·exact H.B d (List.mem_cons_of_mem _ hd) i hi
def RnS (w:World) (e:Ending) (w':World):Prop:=∃ B,e= .returned (.tuple #[.agg #[.slice none 0 0,.int .i64 0],.slice B 0 0])/\Below w.heap.size w w'
theorem CR {net:List SL} {s:Int} {n:Nat} (hv:svB (net,s)=false\/20<n) (hss:svS (net,s)) {A B:Option Addr} {cap cB:Nat} {F:List Nat} (w:World) (hx:RI (kE smE) w A net.length cap net F) :
  Calls Tryz.prog 23 #[.agg #[.slice A net.length cap,.int .i64 s],.slice B n cB] w (RnS w):=by
 have HSS:=Lib.hid hss;have HX:=Lib.hid hx;clear hss hx
 cases hs:svB (net,s)
 ·have HSV:=Lib.hid hs;clear hv hs;refine zE ?_;intro u1 H;refine zI (iT HSS.out u1 (HX.out.below H.O)) ?_;clear H;intro w2 AO cO FO u2 H;refine zG (iS u2 [.slice AO net.length cO,.int .i64 s] (net,s) FO ⟨AO,cO,rfl,(H.f 1).1⟩ HSS.out) ?_;rintro e w3 ⟨rfl,hb⟩;replace H:=H.b hb;rw [HSV.out];clear hb;refine zS_ ?_;clear H;intro u4 H
  exact ⟨_,rfl,H.O⟩
 ·have HSV:=Lib.hid hs;have h20:(20:Int)<(n:Int):=by rcases hv with h | h;rw [hs] at h;cases h;omega
  clear hv hs;refine zE ?_;intro u1 H;refine zI (iT HSS.out u1 (HX.out.below H.O)) ?_;clear H;intro w2 AO cO FO u2 H;refine zG (iS u2 [.slice AO net.length cO,.int .i64 s] (net,s) FO ⟨AO,cO,rfl,(H.f 1).1⟩ HSS.out) ?_;rintro e w3 ⟨rfl,hb⟩;replace H:=H.b hb;rw [HSV.out];clear hb;refine zS_ ?_;clear H;intro u4 H
  exact ⟨_,rfl,H.O⟩
theorem C_ {net:List SL} {s:Int} (h:jO net s) {ls:List (List UInt8)} {n:Nat} (hn:n<=20) (hl:∀ l,l∈ls->l.length<=1048576) {A B:Option Addr} {cap cB:Nat} {F FB:List Nat} (w:World) (hx:RI (kE smE) w A net.length cap net F) (hls:RI txE w B n cB ls FB) :
  Calls Tryz.prog 23 #[.agg #[.slice A net.length cap,.int .i64 s],.slice B n cB] w (RnP net s ls w):=by
 have h20:(n:Int)<=20:=by omega
 have HSV:Hid (svB (net,s)=true):=by unfold Hid svB;rw [h.1,h.2];rfl
 have HSS:Hid (svS (net,s)):=mg h.1;have HS:=Lib.hid h;have HLN:=Lib.hid hls.1;have HLS:=Lib.hid hl;have HLX:=Lib.hid hls;have HX:=Lib.hid hx;clear h hl hx hls;refine zE ?_;intro u1 H;refine zI (iT HSS.out u1 (HX.out.below H.O)) ?_;clear H;intro w2 AO cO FO u2 H;replace H:=Dt txE H;obtain ⟨go,hgo⟩:∃ g,g=w2.heap.size:=⟨_,rfl⟩;rw [<- hgo] at H ⊢;clear hgo;refine zG (iS u2 [.slice AO net.length cO,.int .i64 s] (net,s) FO ⟨AO,cO,rfl,(H.f 1).1⟩ HSS.out) ?_;rintro e w3 ⟨rfl,hb⟩;replace H:=H.b hb;rw [HSV.out];clear hb;refine zN ?_;clear H;intro u4 H;refine zG (ou HS.out.1 u4 (H.f 1).1) ?_;rintro e w5 ⟨AN,cN,cssN,FN,rfl,hox,hb⟩;replace H:=H.ox hb hox;clear hox hb;replace H:=H.d 2;refine zN ?_;clear H;intro u6 H;replace H:=(((((H.r 4).r 4).r 2).r 3).r 4);obtain ⟨gY,hgY⟩:∃ g,g=w5.heap.size:=⟨_,rfl⟩;rw [<- hgY] at H ⊢;clear hgY;intros
 go_loopw [8,6] (fun i vo wr=>∃ (k:Nat) (yq:Rns) (AN:Option Addr) (cN:Nat) (cssN:List (List Value)) (FN:List Nat) (AU:Option Addr) (cU:Nat) (dss:List (List Value)) (G:List Nat),k<=n/\i= .int .i64 k/\vo= .slice AU k cU/\Hid (rnF net s (ls.take k)=yq/\jO yq.1.1 yq.1.2)/\Hid (Hq w [qX txE w.heap.size 9 AU k cU dss yq.2 G,qX (kE smE) w.heap.size 99 AN yq.1.1.length cN cssN yq.1.1 FN,qB gY 25 [.slice AN yq.1.1.length cN,.int .i64 yq.1.2],qB (w.heap.size+1) 25 [.slice none 0 0,.int .i64 0],qB w.heap.size 25 [.slice AO net.length cO,.int .i64 s]] wr)) (fun i _ _=>n-(intOf i).toNat)
 case atStart=>exact ⟨0,((net,s),[]),_,_,_,_,_,_,_,_,Nat.zero_le _,rfl,rfl,⟨rfl,HS.out⟩,H⟩
 case round =>
 clear H;obtain ⟨k,yq,AN,cN,cssN,FN,AU,cU,dss,G,hk,rfl,rfl,HQ,H⟩:=hrel;have H:=H.out
 by_cases hlt:k<n
 ·obtain ⟨l,hl,hmem⟩:=aH (xs:=ls) (j:=k) (by rw [HLN.out];exact hlt)
  have HLI:=Lib.hid hl;have HLL:=Lib.hid (HLS.out l hmem);obtain ⟨b,off,cs,F8,rfl,hb9,hc9,_,hcs⟩:=HLX.out.cells hl 1 rfl;obtain ⟨rfl,-⟩:=hcs;have hcw:w.cell? ⟨b,off+k,none⟩=some (.string (bs l)):=by have:=hc9 0 (by omega);simpa using this
  have k0:(0:Int)<=(k:Int):=by omega
  have k1:(k:Int)<(n:Int):=by omega
  clear hl hmem hc9;refine zN ?_;clear H;intro u21 H;have ez:=Nat.lt_of_lt_of_le hb9 H.m;have E:=H.el;refine zXF (tgF [gY,b] 9 9 (.cells #[.slice none 0 0,.int .i64 0] 25)) ?_;clear H;intro S w22 hne H;refine zD (H.c 2) ?_;intro G;have rx:=H.row ((H.O.cell (p:=⟨b,off+k,none⟩) hb9).trans hcw);intros;refine f_ (fun w23 (hb:Bw w22 w23)=>mL HQ.out.2 HLL.out w23 (OX.rf ((H.b hb).x 1)).choose_spec.1) ?_;clear H
  rintro w23 K hK H e w24 ⟨r,A5,c5,css5,F5,hL,rfl,hox,hb⟩;replace H:=H.ox hb hox;have HL5:=Lib.hid hL;clear hL hox;refine fK ?_;clear hK K hb;refine yGv ?_;clear H;intro w25 g25 hg25 H;refine yS ?_;clear H;intro w26 H;intros
  repeat (first | (refine lc' ?_;intro K hK;go_big_quiet_op;go_big_quiet_on) | refine lk' ?_)
  refine aI ?_;replace H:=H.H;clear G;replace H:=H.d 3;refine zC ?_;intro C;intros
  go_wp2_with (at_builtin;refine zM ?_)
  clear H C;intro u28 H;replace H:=(H.r 3);have hk2:k<=20:=by omega
  refine zAx (an4 yJ (show txE.P u28 [.string (bs r.2)] r.2 [] from ⟨rfl,rfl⟩) (Fr.nil u28 w.heap.size) (fun i hi=>by cases hi)) ?_;clear H;intro g1 c1 w40 H
  replace H:=(H.d 1);refine zC ?_;intro C;intros;go_wp2
  go_roundw
  case rel=>exact ⟨k+1,(r.1,yq.2++[r.2]),A5,c5,css5,F5,some ⟨g1,0,none⟩,c1,_,_,by omega,by go_num,rfl,⟨Dh HQ.out.1 HLI.out HL5.out,HL5.out.ok HQ.out.2⟩,H⟩
  case measure=>simp [intOf];omega
 ·obtain rfl:k=n:=by omega
  have hal:ls.take k=ls:=List.take_of_length_le (by rw [HLN.out];exact Nat.le_refl _)
  have HRN:Hid (rnF net s ls=yq):=by have h:=HQ.out.1;rwa [hal] at h
  have hql:yq.2.length=k:=by rw [<- HRN.out,CW,HLN.out]
  clear hal;subst hql;refine zS_ ?_;clear H;intro u61 H
  exact ⟨yq,AN,cN,cssN,FN,AU,cU,dss,G,HRN.out,HQ.out.2,rfl,(H.x 1),(H.x 0),Sp.apart (i:=1) (j:=0) H.S rfl rfl (by decide),H.O⟩
end
section
open Go.RowKit Go.ChangeShapes Go.WideShapes Go.ChangeAt
theorem RI.str {w:World} {A:Option Addr} {n c:Nat} {xs:List (List UInt8)} {F:List Nat} (h:RI txE w A n c xs F) {j:Nat} {x:List UInt8} (hx:xs[j]?=some x):∃ b off,A=some ⟨b,off,none⟩/\b<w.heap.size/\w.cell? ⟨b,off+j,none⟩=some (.string (bs x)):=by
 obtain ⟨b,off,cs,F1,e,hb,hc,_,hP⟩:=h.cells hx 1 rfl;obtain ⟨rfl,-⟩:=hP
 exact ⟨b,off,e,hb,by have:=hc 0 (by omega);simpa using this⟩
theorem De (A:Option Addr) (n cap:Nat) (xs:List (List UInt8)) (F:List Nat) (w:World) (hx:RI txE w A n cap xs F) (hm:∀ x,x∈xs->x.length<=maxLen) (left:Int) (h0:0<=left) (h1:left<=1048576) :
  Calls Tryz.prog 22 #[.slice A n cap,.int .i64 left] w fun e w'=>∃ v:Int,e= .returned (.int .i64 v)/\(0<=v->n<=1048576/\∀ x,x∈xs->x.length<=1048576)/\Below w.heap.size w w':=by
 have HLN:=Lib.hid hx.1;have HX:=Lib.hid hx;have bn:n<=maxLen:=Nat.le_trans hx.2.1 hx.2.2.1;unfold maxLen at bn hm;have HM:=Lib.hid hm;clear hx hm;have hq0:=IntWalk.i64_in (left-(n:Int)) (by omega)
 by_cases g:(n:Int)<=left
 ·have t1:¬ left-(n:Int)<0:=by omega
  go_enter Tryz.func22,Tryz.ntmps22
  go_wp2
  go_loopw [1,5] (fun l i wr=>∃ (j:Nat) (lv:Int),j<=n/\i= .int .i64 j/\l= .int .i64 lv/\0<=lv/\lv<=left-(n:Int)/\Hid (Below w.heap.size w wr)/\Hid (∀ q x,q<j->xs[q]?=some x->x.length<=1048576)) (fun _ i _=>n-(intOf i).toNat)
  case atStart=>exact ⟨0,left-(n:Int),Nat.zero_le _,rfl,rfl,by omega,by omega,Below.refl _ _,fun q x hq=>absurd hq (by omega)⟩
  case round =>
  obtain ⟨j,lv,hj,rfl,rfl,hl0,hl1,hob,hval⟩:=hrel
  by_cases hlt:j<n
  ·obtain ⟨x,hxj,hmem⟩:=aH (xs:=xs) (j:=j) (by have:=HLN.out;omega)
   have HXJ:=Lib.hid hxj;obtain ⟨b,off,rfl,hbl,d0⟩:=(HX.out.below hob.out).str hxj;have i0':(0:Int)<=(j:Int):=by omega
   have i1:(j:Int)<(n:Int):=by omega
   have hbz:=aK x;have hml:=HM.out x hmem;clear hxj hmem
   by_cases gv:(x.length:Int)<=lv
   ·have HV:Hid (∀ q x,q<j+1->xs[q]?=some x->x.length<=1048576):=by
     intro q y hq hy
     by_cases hqj:q<j
     ·exact hval.out q y hqj hy
     ·obtain rfl:q=j:=by omega
      rw [HXJ.out] at hy;injection hy with hy;subst hy
      omega
    have hq1:=IntWalk.i64_in (lv-((bs x).size:Int)) (by omega)
    have t2:¬ lv-((bs x).size:Int)<0:=by omega
    clear hval;go_wp2
    go_roundw
    case rel=>exact ⟨j+1,lv-((bs x).size:Int),by omega,by go_num,rfl,by omega,by omega,hob,HV⟩
    case measure=>simp [intOf];omega
   ·have hq1:=IntWalk.i64_in (lv-((bs x).size:Int)) (by omega)
    have t2:lv-((bs x).size:Int)<0:=by omega
    clear gv;go_wp2
    go_ret
    exact ⟨-1,rfl,fun h=>by omega,hob.out⟩
  ·obtain rfl:j=n:=by omega
   have HS:Hid (∀ y,y∈xs->y.length<=1048576):=fun y hy=>by
    obtain ⟨q,hq⟩:=List.getElem?_of_mem hy
    exact hval.out q y (by have:=(List.getElem?_eq_some_iff.1 hq).1;have:=HLN.out;omega) hq
   clear hval;go_wp2
   go_ret
   exact ⟨lv,rfl,fun h=>⟨by omega,HS.out⟩,hob.out⟩
 ·have t1:left-(n:Int)<0:=by omega
  clear g
  go_enter Tryz.func22,Tryz.ntmps22
  go_wp2
  go_ret
  exact ⟨-1,rfl,fun h=>by omega,Below.refl _ _⟩
theorem CN (A:Option Addr) (n cap:Nat) (xs:List (List UInt8)) (F:List Nat) (w:World) (hx:RI txE w A n cap xs F) (bn:n<=1048576) :
  Calls Tryz.prog 24 #[.slice A n cap] w (jV txE xs w):=by
 have HLN:=Lib.hid hx.1;have HX:=Lib.hid hx;clear hx
 go_in
 have H0:=Hq.start w;have H:Hq w [qX txE w.heap.size 9 (some ⟨w.heap.size,0,none⟩) n n (List.replicate n [.string (bs [])]) (List.replicate n []) []] (w.alloc (ZS n)):=Hq.ox H0 ((Below.refl _ _).alloc (Nat.le_refl _) _) (OX.blank w n (by omega))
 have hmk:=ui n (by omega) w
 clear H0;obtain ⟨O,hO⟩:∃ O,O=ZS n:=⟨_,rfl⟩;rw [<- hO] at H hmk;clear hO;have H:Hid (Hq w [qX txE w.heap.size 9 (some ⟨w.heap.size,0,none⟩) n n (List.replicate n [.string (bs [])]) (xs.take 0++List.replicate (n-0) []) []] (w.alloc O)):=H;go_wp2
 go_loopw [4] (fun i wr=>∃ (j:Nat) (dss:List (List Value)) (G:List Nat),j<=n/\i= .int .i64 j/\Hid (Hq w [qX txE w.heap.size 9 (some ⟨w.heap.size,0,none⟩) n n dss (xs.take j++List.replicate (n-j) []) G] wr)) (fun i _=>n-(intOf i).toNat)
 case atStart=>exact ⟨0,_,_,Nat.zero_le _,rfl,H⟩
 case round =>
 clear H hmk;obtain ⟨j,dss,G,hj,rfl,H⟩:=hrel
 by_cases hlt:j<n
 ·obtain ⟨x,hxj,hmem⟩:=aH (xs:=xs) (j:=j) (by have:=HLN.out;omega)
  have HXJ:=Lib.hid hxj;obtain ⟨b,off,rfl,hbl,d0⟩:=(HX.out.below H.out.O).str hxj;have i0':(0:Int)<=(j:Int):=by omega
  have i1:(j:Int)<(n:Int):=by omega
  have hV:=(H.out.x 0).1;have hgf:=VO.frozen hV j;have hgc:=VO.cell hV j (by show j<n*1;omega)
  obtain ⟨z,hz⟩:∃ z,dss.flatten[j]?=some z:=⟨_,List.getElem?_eq_getElem (by rw [VO.len hV];show j<n*1;omega)⟩
  rw [hz] at hgc;have hgb:=(VO.aj hV w.heap.size rfl).2;have hql:(xs.take j).length=j:=by rw [List.length_take,HLN.out];omega
  have hq2:(xs.take j++List.replicate (n-j) ([]:List UInt8))[j]?=some []:=by rw [List.getElem?_append_right (by omega),hql,Nat.sub_self,List.getElem?_replicate,if_pos (by omega)]
  have h2:=Dl H.out hq2 x;rw [Dg hql hlt,<- aW hxj] at h2;have H2:=Lib.hid h2;clear hV hz hql hq2 h2 hxj hmem H;go_wp2
  go_roundw
  case rel=>exact ⟨j+1,_,_,by omega,by go_num,H2⟩
  case measure=>simp [intOf];omega
 ·obtain rfl:j=n:=by omega
  have HN:Hid (jV txE xs w (.returned (.slice (some ⟨w.heap.size,0,none⟩) j j)) wr):=by
   have h:=H.out.x 0;rw [Nat.sub_self,List.replicate_zero,List.append_nil,List.take_of_length_le (by rw [HLN.out];exact Nat.le_refl _)] at h
   obtain ⟨F2,hr2,hf2⟩:=OX.rf h;have:=HLN.out;subst this
   exact ⟨some ⟨w.heap.size,0,none⟩,_,F2,rfl,hr2,hf2.1,H.out.O⟩
  clear H;go_wp2
  exact bodyPost_ret (v:= .slice (some ⟨w.heap.size,0,none⟩) j j) (by simp [results,Tryz.results24,go_sem]) rfl HN.out
theorem CM (A B:Option Addr) (n cap m cap':Nat) (xs:List (List UInt8)) (F G:List Nat) (w:World) (hx:RI txE w A n cap xs F) (hy:RI txE w B m cap' xs G) :
  Calls Tryz.prog 26 #[.slice A n cap,.slice B m cap'] w fun e w'=>e= .returned (.bool true)/\Below w.heap.size w w':=by
 obtain rfl:m=n:=hy.1.symm.trans hx.1;have HLN:=Lib.hid hx.1;have HX:=Lib.hid hx;have HY:=Lib.hid hy;have bm:m<=maxLen:=Nat.le_trans hx.2.1 hx.2.2.1;unfold maxLen at bm;clear hx hy
 go_enter Tryz.func26,Tryz.ntmps26
 go_wp2
 go_loopw [5] (fun i wr=>∃ j:Nat,j<=m/\i= .int .i64 j/\Hid (Below w.heap.size w wr)) (fun i _=>m-(intOf i).toNat)
 case atStart=>exact ⟨0,Nat.zero_le _,rfl,Below.refl _ _⟩
 case round =>
 obtain ⟨j,hj,rfl,hob⟩:=hrel
 by_cases hlt:j<m
 ·obtain ⟨x,hxj,hmem⟩:=aH (xs:=xs) (j:=j) (by have:=HLN.out;omega)
  obtain ⟨b,off,rfl,hbl,d0⟩:=(HX.out.below hob.out).str hxj;obtain ⟨b',off',rfl,hbl',d1⟩:=(HY.out.below hob.out).str hxj;have i0':(0:Int)<=(j:Int):=by omega
  have i1:(j:Int)<(m:Int):=by omega
  have hsm:((bs x).toList == (bs x).toList)=true:=by simp
  clear hxj hmem
  go_wp2_with fail
  go_quiet (fail)
  go_wp2
  go_roundw
  case rel=>exact ⟨j+1,by omega,by go_num,below_drewN hob.out _⟩
  case measure=>simp [intOf];omega
 ·obtain rfl:j=m:=by omega
  go_wp2
  go_ret
  exact ⟨rfl,hob.out⟩
def CZ (k:Int):List UInt8:=if k<=0 then [109,48] else 109::Lib.decDigits k.toNat
def Mt0 (n m:Int) (s:ByteArray):Prop:=∃ r,s=bs r/\(m=0->Lib.decDigits n.toNat=r)/\(0<m->Lib.decDigits n.toNat=Lib.decDigits m.toNat++r)
theorem Mt0.start (n:Int) (h:0<n):Mt0 n n ⟨#[]⟩:=⟨[],rfl,fun e=>by omega,fun _=>by simp⟩
theorem Mt0.step {n m:Int} {s:ByteArray} (h:Mt0 n m s) (hm:0<m):Mt0 n (m/10) (strOfNums [48+m%10]++s):=by
 obtain ⟨r,rfl,_,h2⟩:=h;refine ⟨UInt8.ofNat (48+m%10).toNat::r,?_,fun e=> ?_,fun e=> ?_⟩
 ·rw [Cc,bN];rfl
 ·rw [h2 hm,vQ (by omega) (by omega)];rfl
 ·rw [h2 hm,Af (by omega),List.append_assoc];rfl
theorem Mt0.size {n m:Int} {s:ByteArray} (h:Mt0 n m s) (hm:0<=m) (hn:n<=4611686018427387904):(s.size:Int)<=4611686018427387905:=by
 obtain ⟨r,rfl,h1,h2⟩:=h;have h3:=e7 n.toNat;rw [aK];rcases Int.lt_or_eq_of_le hm with h0 | h0
 ·rw [h2 h0,List.length_append] at h3
  omega
 ·rw [h1 h0.symm] at h3
  omega
theorem Mt0.fin {n:Int} {s:ByteArray} (h:Mt0 n 0 s) (h0:0<n):(⟨#[109]⟩:ByteArray)++s=bs (CZ n):=by
 obtain ⟨r,rfl,h1,_⟩:=h;have e:(⟨#[109]⟩:ByteArray)=bs [109]:=rfl;rw [e,bN];unfold CZ;rw [if_neg (by omega),h1 rfl]
 rfl
theorem Dp {s:ByteArray} (h:(s.size:Int)<=4611686018427387905) (d:Int):(9223372036854775807<(strOfNums [d]).size+s.size)=False:=by
 rw [strOfNums_size];simp only [List.length_cons,List.length_nil,eq_iff_iff,iff_false]
 omega
theorem CY (n:Int) (h1:n<=4611686018427387904) (w:World):Calls Tryz.prog 69 #[.int .i64 n] w fun e w'=>e= .returned (.string (bs (CZ n)))/\Below w.heap.size w w':=by
 by_cases h0:0<n
 ·have kc:=vH;have ks:=yt
  go_enter Tryz.func69,Tryz.ntmps69
  go_wp2
  go_loopw [0,3] (fun q o wr=>∃ (m:Int) (s:ByteArray),q= .int .i64 m/\o= .string s/\0<=m/\m<=n/\Hid (Mt0 n m s)/\Hid (Below w.heap.size w wr)) (fun q _ _=>(intOf q).toNat)
  case atStart=>exact ⟨n,_,rfl,rfl,by omega,Int.le_refl _,Mt0.start n h0,Below.refl _ _⟩
  case round =>
   obtain ⟨m,s,rfl,rfl,m0,m1,hd,hb⟩:=hrel;have hsz:=hd.out.size m0 h1
   by_cases hm:0<m
   ·have hss:=Dp hsz;clear hsz;go_wp2
    go_roundw
    case rel=>exact ⟨m/10,_,rfl,rfl,by omega,by omega,hd.out.step hm,hb.out.alloc hb.out.size _⟩
    case measure=>simp [intOf];omega
   ·obtain rfl:m=0:=by omega
    have HF:=Lib.hid (hd.out.fin h0);have ho1:=cK (a:=1) (b:=s.size) (by omega)
    have e32:ByteArray.size ⟨#[109]⟩=1:=rfl;clear hd hsz;go_wp2
    go_ret
    exact ⟨bT HF.out,hb.out⟩
 ·have HT:Hid (CZ n=[109,48]):=by unfold Hid CZ;rw [if_pos (by omega)]
  have h0:n<=0:=by omega
  go_enter Tryz.func69,Tryz.ntmps69
  go_wp2
  go_ret
  exact ⟨bT (by rw [HT.out];rfl),Below.refl _ _⟩
def CP (n:Nat) (k:Int):List (List UInt8):=(List.range n).map fun (i:Nat)=>CZ (k+(i:Int))
theorem CQ (n:Nat) (k:Int):(CP n k).length=n:=by simp [CP]
theorem Df {n:Nat} (k:Int) {j:Nat} (h:j<n):(CP n k)[j]?=some (CZ (k+(j:Int))):=by unfold CP;rw [List.getElem?_map,List.getElem?_range h];rfl
theorem Di (n:Nat) (k:Int) {xs:List (List UInt8)} (hl:xs.length=n) {j:Nat} (h:j<n):((CP n k).take j++xs.drop j).set j (CZ (k+(j:Int)))=(CP n k).take (j+1)++xs.drop (j+1):=by
 rw [aW (Df k h),List.set_append_right _ _ (by rw [List.length_take,CQ];omega),List.length_take,CQ,Nat.min_eq_left (by omega),Nat.sub_self,List.drop_eq_getElem_cons (by omega),List.set_cons_zero]
 simp
theorem CU (A:Option Addr) (n c:Nat) (xs:List (List UInt8)) (F:List Nat) (k:Int) (b0:Nat) (w:World) (hx:RI txE w A n c xs F) (hf:Fr w b0 F) (hk:0<=k/\k+(n:Int)<=4611686018427387904) :
  Calls Tryz.prog 27 #[.slice A n c,.int .i64 k] w fun e w'=>e= .returned (.int .i64 (k+(n:Int)))/\RI txE w' A n c (CP n k) F/\Mk (fun i=>i∈F) w w':=by
 obtain ⟨k0,k1⟩:=hk;have HL:=Lib.hid hx.1;have HX:Hid (RI txE w A n c ((CP n k).take 0++xs.drop 0) F):=by show RI _ _ _ _ _ _ _;simpa using hx
 have HF:=Lib.hid hf;clear hx hf
 go_enter Tryz.func27,Tryz.ntmps27
 go_wp2
 go_loopw [1,5] (fun q i wr=>∃ j:Nat,j<=n/\i= .int .i64 j/\q= .int .i64 (k+(j:Int))/\Hid (RI txE wr A n c ((CP n k).take j++xs.drop j) F)/\Hid (Mk (fun i=>i∈F) w wr)) (fun _ i _=>n-(intOf i).toNat)
 case atStart=>exact ⟨0,Nat.zero_le _,rfl,by simp,HX,Mk.refl w⟩
 case round =>
  clear HX;obtain ⟨j,hj,rfl,rfl,hri,hmk⟩:=hrel
  by_cases hlt:j<n
  ·obtain ⟨x,hxj,hmem⟩:=aH (xs:=xs) (j:=j) (by have:=HL.out;omega)
   have hxm:((CP n k).take j++xs.drop j)[j]?=some x:=by
    rw [List.getElem?_append_right (by rw [List.length_take,CQ];omega),List.length_take,CQ,Nat.min_eq_left (by omega),Nat.sub_self,List.getElem?_drop]
    simpa using hxj
   have HNX:=Lib.hid (Di n k HL.out hlt);obtain ⟨b,off,cs,F2,rfl,hbF,hbn,hn2,hsub,hp,hc,hre⟩:=hri.out.focus HF.out.1 hxm;obtain ⟨rfl,rfl⟩:=hp;obtain ⟨_,t,cB,hB0,_⟩:=HF.out.2 b hbF;obtain ⟨dB,hdB⟩:=hmk.out.ty b t cB hB0;have e0:wr.cell? ⟨b,off+j,none⟩=some (.string (bs x)):=by have h:=hc 0 (by decide);rw [show off+(j*txE.s+0)=off+j from by show off+(j*1+0)=_;omega] at h;exact h
   have HD:=Lib.hid hdB;have HRE:=Lib.hid hre;have HBF:=Lib.hid hbF;have i0':(0:Int)<=(j:Int):=by omega
   have i1:(j:Int)<(n:Int):=by omega
   clear hdB hre hbF hc hxj hmem hxm hri
   go_wp2_with fail
   refine (CY (k+(j:Int)) (by omega) wr).mono ?_
   rintro e w4 ⟨rfl,hb4⟩;have hD4:=hb4.block b HD.out.lt;have hD4:Blk w4 b t dB:=HD.out.aa hb4;have hgf:=hD4.frozen (off+j);have hgl:=hD4.lt;have hgc:w4.cell? ⟨b,off+j,none⟩=some (.string (bs x)):=(hb4.cell (p:=⟨b,off+j,none⟩) HD.out.lt).trans e0;have HR:∀ s:List UInt8,Hid (RI txE (w4.setCell ⟨b,off+j,none⟩ (.string (bs s))) (some ⟨b,off,none⟩) n c (((CP n k).take j++xs.drop j).set j s) F):=fun s=>by
    refine HRE.out _ [.string (bs s)] s ?_ ?_ ?_ ?_ ⟨rfl,rfl⟩
    ·simpa [World.setCell] using hgl
    ·intro g hg hgb _
     exact (Below.heap_setCell _ _ _ g hgb).trans (hb4.block g (by obtain ⟨_,t',c',h',_⟩:=HF.out.2 g hg;obtain ⟨d',h''⟩:=hmk.out.ty g t' c' h';exact h''.lt))
    ·intro o ho;rw [(hD4.dc _ _).cell,<- (hb4.cell (p:=⟨b,o,none⟩) HD.out.lt),hD4.cell,Array.getElem?_setIfInBounds,if_neg (by have:txE.s=1:=rfl;rw [this] at ho;omega)]
    ·intro i hi;obtain rfl:i=0:=by have:txE.s=1:=rfl;omega
     have hl:=(Array.getElem?_eq_some_iff.1 ((hD4.cell (off+j)).symm.trans hgc)).1
     show _=some _
     rw [show off+(j*txE.s+0)=off+j from by show off+(j*1+0)=_;omega,(hD4.dc _ _).cell,Array.getElem?_setIfInBounds,if_pos rfl,if_pos hl]
   have HR:=Lib.hid HR;have HM:∀ s:List UInt8,Hid (Mk (fun i=>i∈F) w (w4.setCell ⟨b,off+j,none⟩ (.string (bs s)))):=fun s=>Mk.set ⟨hmk.out.up.trans (UpL.eW (G:=fun _=>False) hb4) (fun i _ h=>absurd h id),hmk.out.ty.trans fun g t cs h=>⟨cs,h.aa hb4⟩⟩ b (off+j) _ HBF.out
   have HM:=Lib.hid HM;clear hb4 hD4 hmk;go_wp2
   go_roundw
   case rel=>exact ⟨j+1,by omega,by go_num,by go_num,by have h:=(HR.out (CZ (k+(j:Int)))).out;rw [HNX.out] at h;exact h,HM.out _⟩
   case measure=>simp [intOf];omega
  ·obtain rfl:j=n:=by omega
   have hfin:RI txE wr A j c (CP j k) F:=by
    have h:=hri.out;rw [List.drop_eq_nil_of_le (by rw [HL.out];exact Nat.le_refl _),List.append_nil,List.take_of_length_le (by rw [CQ];exact Nat.le_refl _)] at h
    exact h
   have HFN:=Lib.hid hfin;clear hfin hri;go_wp2
   go_ret
   exact ⟨rfl,HFN.out,hmk.out⟩
theorem CT (A:Option Addr) (n c:Nat) (F:List Nat) (k:Int) (w:World) (hx:RI txE w A n c (CP n k) F) (hk:0<=k/\k+(n:Int)<=4611686018427387904) :
  Calls Tryz.prog 28 #[.slice A n c,.int .i64 k] w fun e w'=>e= .returned (.int .i64 (k+(n:Int)))/\Below w.heap.size w w':=by
 obtain ⟨k0,k1⟩:=hk;have HX:=Lib.hid hx;clear hx
 go_enter Tryz.func28,Tryz.ntmps28
 go_wp2;have H:=Lib.hid (Hq.start w)
 go_loopw [1,5] (fun q i wr=>∃ j:Nat,j<=n/\i= .int .i64 j/\q= .int .i64 (k+(j:Int))/\Hid (Hq w [] wr)) (fun _ i _=>n-(intOf i).toNat)
 case atStart=>exact ⟨0,Nat.zero_le _,rfl,by simp,H⟩
 case round =>
  clear H;obtain ⟨j,hj,rfl,rfl,H⟩:=hrel;have H:=H.out
  by_cases hlt:j<n
  ·have HXJ:=Lib.hid (Df k hlt);have i0':(0:Int)<=(j:Int):=by omega
   have i1:(j:Int)<(n:Int):=by omega
   have hsm:((bs (CZ (k+(j:Int)))).toList == (bs (CZ (k+(j:Int)))).toList)=true:=by simp
   refine zN ?_;clear H;intro u21 H;obtain ⟨b,off,rfl,zb,hc0⟩:=HX.out.str HXJ.out;have ez:=Nat.lt_of_lt_of_le zb H.m;refine zX (tg [b]) ?_;clear H;intro S w22 hne H;have rx:=H.row ((H.O.cell (p:=⟨b,off+j,none⟩) zb).trans hc0);refine yB (CY (k+(j:Int)) (by omega) w22) ?_;clear H;intro w23 H
   intros
   repeat (first | (refine lc' ?_;intro K hK;go_big_quiet_op;go_big_quiet_on) | refine lk' ?_)
   refine aI ?_;replace H:=H.H;refine zC ?_;intro C;intros;go_wp2
   go_roundw
   case rel=>exact ⟨j+1,by omega,by go_num,by go_num,H⟩
   case measure=>simp [intOf];omega
  ·obtain rfl:j=n:=by omega
   have HO:=Lib.hid H.O;clear H;go_wp2
   go_ret
   exact ⟨rfl,HO.out⟩
theorem Dm:Tryz.prog.cellsOf 9=1:=by kernel_rfl
theorem Dk {H:Type} {enc:TypeId×Value->H} {W:World} {base:Nat} {sp:Nat->Bool} {held:Bool} {fuel:Nat} {A:Option Addr} {n cap:Nat} {x:DataW H×List MemPlace} (h:DataW.trod enc Tryz.prog W base sp held fuel 48 [.slice A n cap]=some x):∃ xs F,RI txE W A n cap xs F/\∀ x,x∈xs->x.length<=maxLen:=by
 rcases open_strings Tryz.underlying48 Tryz.underlying9 Dm h with ⟨hcs,_⟩ | ⟨a,len,cap',ss,hcs,_,hl,hm,hlen,_,hcell,hsz⟩
 ·simp at hcs
  obtain ⟨rfl,rfl,rfl⟩:=hcs
  exact ⟨[],[],RI.nil W none (by unfold maxLen;omega),fun x hx=>by cases hx⟩
 ·simp at hcs
  obtain ⟨rfl,rfl,rfl⟩:=hcs;have hll:n<=ss.length:=by rw [hlen];split <;> omega
  by_cases h0:n=0
  ·subst h0
   exact ⟨[],[],RI.nil W (some a) hm,fun x hx=>by cases hx⟩
  ·have hc0:=hcell 0 (by omega)
   obtain ⟨b,off,spot⟩:=a;have hs:spot=none:=by simpa [Addr.add] using World.cell?_spot hc0
   subst hs;have hb:=World.block_lt_of_cell? W _ hc0;refine ⟨(List.range n).map fun i=>(ss.getD i ByteArray.empty).data.toList,_,⟨by simp,hl,hm,.inr ⟨b,off,(List.range n).map fun i=>[Value.string (ss.getD i ByteArray.empty)],_,rfl,by simpa [Addr.add] using hb,rfl,dJ.zk (E:=txE) (f:=fun i=>[Value.string (ss.getD i ByteArray.empty)]) (g:=fun i=>(ss.getD i ByteArray.empty).data.toList) (h:=fun _=>[]) n (fun i _=>⟨by rw [fe],rfl⟩),?_⟩⟩,?_⟩
   ·intro i cs hi j hj;obtain rfl:j=0:=by have:txE.s=1:=rfl;omega
    have hil:i<n:=by
     have:=(List.getElem?_eq_some_iff.1 hi).1
     simpa using this
    have e:[Value.string (ss.getD i ByteArray.empty)]=cs:=by simpa [hil] using hi
    have h1:=hcell i (by omega)
    rw [mX] at h1;rw [<- e,show off+(i*txE.s+0)=off+i from by show off+(i*1+0)=_;omega,h1]
    rfl
   ·intro x hx;obtain ⟨i,hi,rfl⟩:=List.mem_map.1 hx;have hi:i<n:=by simpa using hi
    have h1:=hsz (ss.getD i ByteArray.empty) (by rw [List.getD_eq_getElem?_getD,List.getElem?_eq_getElem (by omega)];exact List.getElem_mem _)
    exact h1
end
section
attribute [local go_sem] af ah ae
def Lx (x:List SL×Int) (l:List UInt8) (r:Res):Prop:=if svB x=true then LnR x.1 x.2 l r else r=(([],0),[])
theorem Lx.one {x:List SL×Int} {l:List UInt8} {a b:Res} (h:Lx x l a) (k:Lx x l b):a=b:=by
 unfold Lx at h k
 split at h
 ·rename_i e
  rw [if_pos e] at k
  exact h.one k
 ·rename_i e
  rw [if_neg e] at k;rw [h,k]
theorem xm {x:List SL×Int} (h:svB x=true):jO x.1 x.2:=by
 unfold svB at h
 simpa [jO,Bool.and_eq_true] using h
theorem Lx.nk {x:List SL×Int} {l:List UInt8} {r:Res} (h:Lx x l r):bu r.1.1=true\/r.1.1=[]:=by
 unfold Lx at h
 split at h
 ·rename_i e
  exact .inl (h.ok (xm e)).1
 ·exact .inr (by rw [h])
theorem Lx.sv {x:List SL×Int} {l:List UInt8} {r:Res} (h:Lx x l r):svS r.1:=by
 rcases h.nk with h | h
 ·exact mg h
 ·exact ⟨by rw [h];simp,fun l hl=>by rw [h] at hl;cases hl⟩
theorem Lx.ct {x:List SL×Int} {l:List UInt8} {r:Res} (h:Lx x l r):ctA ctL r.1.1<=1000:=by
 rcases h.nk with h | h
 ·obtain ⟨h1,h2⟩:=du h;refine Nat.le_trans (tQ (a:=4) (b:=3) (d:=25) h1 fun l hl=>⟨kU (h2 l hl),fun p hp=> ?_⟩) (by decide)
  have:=fs (mW (h2 l hl) p hp)
  exact ⟨by omega,by omega⟩
 ·rw [h];decide
theorem svS.ct {x:List SL×Int} (h:svS x):1+ctA ctL x.1<=4611686018427387904:=by
 have:=tQ (net:=x.1) (a:=1048576) (b:=1048576) (d:=1048576) h.1 fun l hl=>h.2 l hl
 omega
def LxP (x:List SL×Int) (l:List UInt8) (w:World) (e:Ending) (w':World):Prop:=∃ (r:Res) (A:Option Addr) (c:Nat) (F:List Nat),Lx x l r/\e= .returned (.tuple #[.agg #[.slice A r.1.1.length c,.int .i64 r.1.2],.string (bs r.2)])/\RI (kE smE) w' A r.1.1.length c r.1.1 F/\Fr w' w.heap.size F/\Below w.heap.size w w'
theorem LxP.bad {x:List SL×Int} {l:List UInt8} {w:World} {e:Ending} {w':World} (hv:svB x=false) (h:LnN w e w'):LxP x l w e w':=⟨(([],0),[]),none,0,[],by unfold Lx;rw [hv];rfl,h.1,RI.nil _ _ (by unfold maxLen;omega),Fr.nil _ _,h.2⟩
theorem LxP.yes {x:List SL×Int} {l:List UInt8} {w:World} {e:Ending} {w':World} (hv:svB x=true) (h:LnP x.1 x.2 l w e w'):LxP x l w e w':=by
 obtain ⟨r,A,c,css,F,hr,he,hox,hb⟩:=h;obtain ⟨F',ri,fr⟩:=hox.ri
 exact ⟨r,A,c,F',by unfold Lx;rw [if_pos hv];exact hr,he,ri,fr,hb⟩
theorem Hq.mkR {α:Type} {E:Elt α} {w0 w w':World} {L:List Ow} {b n c:Nat} {A:Option Addr} {xs xs':List α} {F:List Nat} (H:Hq w0 (qR E b A n c xs F::L) w) (hr:RI E w' A n c xs' F) (hm:Mk (fun i=>i∈F) w w'):Hq w0 (qR E b A n c xs' F::L) w':=by
 have K:=H.ul hm.up fun i hi=>hi
 refine ⟨⟨⟨hr,H.S.1.2.ty hm.ty⟩,H.S.2.1,K.S⟩,fun d hd i hi=> ?_,K.O⟩
 rcases List.mem_cons.1 hd with rfl | hd
 ·exact H.B _ (List.mem_cons_self ..) i hi
 ·exact K.B d hd i hi
end
end Go.Proofs.YtjciicheoghcdaaGreatDoor
