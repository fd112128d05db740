/- Part of the proof of FnServiceAnswer. -/
import Derived.Test.YtjciicheoghcdaaGreatDoorUs
import Derived.Test.YtjciicheoghcdaaGreatDoorUz
namespace Go.Proofs.YtjciicheoghcdaaGreatDoor
open Go.RowKit Go.Proofs.Tryz
set_option linter.all false
set_option maxRecDepth 20000
set_option maxHeartbeats 16000000
section
attribute [local go_sem] af ah ae
open Go.Maps
def LnP (net:List SL) (s:Int) (l:List UInt8) (w:World) (e:Ending) (w':World):Prop:=∃ (r:Res) (A:Option Addr) (c:Nat) (css:List (List Value)) (F:List Nat),LnR net s l r/\e= .returned (.tuple #[.agg #[.slice A r.1.1.length c,.int .i64 r.1.2],.string (bs r.2)])/\OX (kE smE) w' w.heap.size 99 A r.1.1.length c css r.1.1 F/\Below w.heap.size w w'
theorem OX.neS {α:Type} {E:Elt α} {w:World} {base n c:Nat} {T:TypeId} {A:Option Addr} {css:List (List Value)} {xs:List α} {F:List Nat} (h:OX E w base T A n c css xs F) (cs:Array Value) (hT:T≠25:=by decide):∀ i,(blk A=some i\/i∈F)->w.heap[i]?≠some (.cells cs 25):=fun i hi e=>nvX hT w h i hi cs e
theorem Hq.nbs {α:Type} {E:Elt α} {w0 w:World} {L:List Ow} {b n k h0:Nat} {T t':TypeId} {A:Option Addr} {css:List (List Value)} {xs:List α} {F:List Nat} {ds:List Value} (H:Hq w0 (qX E b T A n k css xs F::L) w) (m:Has L (qB h0 t' ds)):¬(blk A=some h0\/h0∈F):=fun e=>H.S.2.1 h0 e _ m.mem rfl
theorem UpL.kz {G:Nat->Prop} {w w':World} {b:Nat} {Z:Obj} (U:UpL G w w') (h:∀ i,G i->w.heap[i]?≠some Z):KB b Z w w':=⟨U.size,fun i _ hl e=>(U.block i hl fun hg=>h i hg e).trans e⟩
theorem vM (l:List UInt8):(Lib.cut l [32]).1.length<=l.length:=by
 unfold Lib.cut
 split
 ·simp;omega
 ·simp
theorem mz {net:List SL} {s:Int} (h:jO net s) {l:List UInt8} (hl:l.length<=1048576) {A:Option Addr} {cap:Nat} {F:List Nat} (w:World) (ht:Tab w) (hm:iD w) (hx:RI (kE smE) w A net.length cap net F) :
  Calls prog 9 #[.agg #[.slice A net.length cap,.int .i64 s],.string (bs l)] w (LnP net s l w):=by
 obtain⟨nm,hc1⟩:∃ x,x=(Lib.cut l [32]).1:=⟨_,rfl⟩;obtain⟨tx,hc2⟩:∃ x,x=(Lib.cut l [32]).2.1:=⟨_,rfl⟩;obtain⟨sp,hc3⟩:∃ x,x=(Lib.cut l [32]).2.2:=⟨_,rfl⟩;have hnl:(bs nm).size<=maxLen:=by rw[aK,hc1];have:=vM l;unfold maxLen;omega
 have HC1:Hid ((Lib.cut l [32]).1=nm):=hc1.symm;have HC2:Hid ((Lib.cut l [32]).2.1=tx):=hc2.symm;have HC3:Hid ((Lib.cut l [32]).2.2=sp):=hc3.symm;have HSV:Hid (svB (net,s)=true):=by unfold Hid svB;rw[h.1,h.2];rfl
 have HSS:Hid (svS (net,s)):=mg h.1;have HNL:=Qh hnl;have HS:=Qh h;have HL:=Qh hl;have HT:=Qh ht;have HM:=Qh hm;have HX:=Qh hx;clear hc1 hc2 hc3 h hl ht hm hx hnl;refine zE ?_;intro u1 H;refine zG (iM u1 [.slice A net.length cap,.int .i64 s] (net,s) F ⟨A,cap,rfl,HX.out.below H.O⟩ HSS.out) ?_;rintro e w2 ⟨rfl,hb⟩;replace H:=H.b hb;rw[HSV.out];clear hb;refine zN ?_;clear H;intro u3 H;refine zG (yY l [32] u3 HL.out (HM.out.below H.O Ql)) ?_;rintro e w4 ⟨rfl,hb⟩;replace H:=H.b hb;rw[HC1.out,HC2.out,HC3.out];clear hb;refine zN ?_;clear H;intro u5 H;refine zG (Gc u5) ?_;rintro e w9 ⟨gm,g1,g2',g3,rfl,hmap,b1,b2,b3,hgg,hb⟩;have hob:=H.m;replace H:=H.add hb ((qB g1 3 [.int .i64 1]).and ((qB g2' 3 [.int .i64 2]).and (qB g3 3 [.int .i64 3]))) ⟨b1,b2,b3⟩ (fun i hi=>by rcases hi with h|h|h <;> (have h:i=_:=h;omega))
 clear hb b1 b2 b3 hgg hob;obtain⟨v,ps,hrun,hv⟩:=hmap.look_ok (t:=66) (string_keyed underlying9) underlying66 (z:= .agg #[.int .i64 0,.nilFunc]) (zd:= .held (.agg #[.int .i64 0,.nilFunc])) (zp:=[]) (by kernel_rfl) rfl (key:= .string (bs nm)) (WideMaps.keyOf_string_mk underlying9 HNL.out)
 have hnm:(bs nm).data.toList=nm:=by simp[bs]
 rw[hnm] at hrun hv;injection hv with hv;injection hv with hv _
 cases hc:ei nm with
 | none =>
  obtain⟨h1,h2⟩:=vJ hc g1 g2' g3 (.held (.agg #[.int .i64 0,.nilFunc]));rw[h1] at hrun;rw[h2] at hv;injection hv with hv;subst hv;have HLN:Hid (LnR net s l ((net,s),fa)):=by unfold Hid LnR;rw[HC1.out,hc]
  clear h1 h2 hc hmap hnm;refine zC ?_;intro C;intros
  go_wp2_with (with_reducible refine gn 64 rfl ?_)
  refine zM ?_;clear H C;intro u10 H;intros;refine Qh ?_;refine zSt ?_;clear H;intro w10 H;refine zN ?_;clear H;intro u11 H;refine zG (bg HS.out.1 u11 (HX.out.below H.O)) ?_;rintro e w12 ⟨AC,cC,cssC,FC,rfl,hox,hb⟩;replace H:=H.ox hb hox;clear hox hb;refine zS_ ?_;clear H;intro u13 H
  exact⟨((net,s),fa),AC,cC,cssC,FC,HLN.out,rfl,(H.x 0),H.O⟩
 | some p =>
  obtain⟨kk,f⟩:=p;obtain⟨h1,fid,caps,h2,hact,hk3⟩:=vK hc (K:=((qB g1 3 [.int .i64 1]).and ((qB g2' 3 [.int .i64 2]).and (qB g3 3 [.int .i64 3]))).P) (fun W h=>h.1) (fun W h=>h.2.1) (fun W h=>h.2.2) (.held (.agg #[.int .i64 0,.nilFunc]))
  rw[h1] at hrun;rw[h2] at hv;injection hv with hv;subst hv;have hfr:=hact.1;have HACT:=Qh hact.2;have HCM:=Qh hc;clear h1 h2 hc hmap hact hnm;rcases Nat.eq_zero_or_pos kk with k0|k0
  ·have e0:((kk:Int) == 0)=true:=by rw[k0];rfl
   have e1:decide (0<(kk:Int))=false:=by rw[k0];rfl
   have e2:¬(0<(kk:Int)):=by omega
   replace e2:(kk:Int)<=0:=by omega
   have HKZ:=Qh k0;clear k0
   cases sp with
   | true =>
    have HLN:Hid (LnR net s l ((net,s),fa)):=by unfold Hid LnR;rw[HC1.out,HCM.out];exact .inl ⟨.inl ⟨HKZ.out,HC3.out⟩,rfl⟩
    refine zC ?_;intro C;intros
    go_wp2_with (with_reducible refine gn 64 rfl ?_)
    refine zM ?_;clear H C;intro u10 H;intros;refine Qh ?_;refine zSt ?_;clear H;intro w10 H;refine zN ?_;clear H;intro u11 H;refine zG (bg HS.out.1 u11 (HX.out.below H.O)) ?_;rintro e w12 ⟨AC,cC,cssC,FC,rfl,hox,hb⟩;replace H:=H.ox hb hox;clear hox hb;refine zS_ ?_;clear H;intro u13 H
    exact⟨((net,s),fa),AC,cC,cssC,FC,HLN.out,rfl,(H.x 0),H.O⟩
   | false =>
    have htx:tx=[]:=by rw[<-HC2.out];exact Ac HC3.out
    have HTL:Hid (tx.length<=1048576):=by unfold Hid;rw[htx];simp
    have HK0:Hid (kk=0->tx=[]):=fun _=>htx
    have HNF:Hid (¬uV kk (Lib.cut l [32])):=by unfold Hid uV;rw[HC3.out];have:=HKZ.out;rintro(⟨_,h⟩|⟨h,_⟩);cases h;omega
    clear htx;refine zC ?_;intro C;intros
    go_wp2_with (with_reducible refine gn 64 rfl ?_)
    refine zM ?_;clear H C;intro u10 H;intros;refine Qh ?_;refine zSt ?_;clear H;intro w10 H;refine zN ?_;clear H;intro u11 H;refine zG (t_ tx HTL.out kk hk3 HK0.out u11 (HT.out.below H.O Ql) (HM.out.below H.O Ql)) ?_;rintro e wR (⟨ms,AM,cM,FM,hrd,rfl,hrm,hrf,hb⟩|⟨hrd,rfl,hb⟩)
    ·replace H:=H.rf hb hrm hrf;have HRD:=Qh hrd;clear hrd hrm hrf hb
     cases hres:f ms net s with
     | none =>
      have HLN:Hid (LnR net s l ((net,s),tNo)):=by unfold Hid LnR;rw[HC1.out,HCM.out];exact .inr ⟨HNF.out,.inl ⟨ms,by rw[HC2.out];exact HRD.out,by rw[hres];rfl⟩⟩
      have HRES:=Qh hres;clear hres;refine zN ?_;clear H;intro u13 H;have E:=H.el;refine zXF (tgF [w9.heap.size,w.heap.size] 10 13 (.cells #[.slice none 0 0,.int .i64 0] 25)) ?_;clear H;intro S w14 hne H;refine zD ((And.intro (H.c 1) (H.c 4))) ?_;intro G;intros;refine f_ (fun w15 (hb:Bw w14 w15)=>bg HS.out.1 w15 (HX.out.below (H.b hb).O)) ?_;clear H
      rintro w15 K hK H e w16 ⟨AC,cC,cssC,FC,rfl,hox,hb⟩;replace H:=H.ox hb hox;clear hox;refine fK ?_;clear hK K hb;intros;refine fU (fun w17 (hb:Bw w16 w17)=>HACT.out w17 net s ms _ _ _ _ _ _ _ _ _ ((H.b hb).p 3) HS.out HRD.out.mv HRD.out.1 (H.b hb).O.size rfl ((H.b hb).x 0) ((H.b hb).f 1).1 (HT.out.below (H.b hb).O Ql)) ?_;clear H
      rintro w17 K hK H e w18 hr;rw[HRES.out] at hr;have hb:=hr.2.kz (b:=u13.heap.size) (Z:= .cells #[.slice none 0 0,.int .i64 0] 25) (OX.neS (H.x 0) _);obtain⟨rfl,hu⟩:=hr;replace H:=Hr.ul H hu (fun i hi=>hi) (by repeat (first|exact all_nil|refine all_cons (Hq.nbs H.H (by repeat (with_reducible first|exact Has.h0|apply Has.t0))) ?_))
      refine fKU ?_;clear hK K hb hu;refine yGv ?_;clear H;intro w19 g19 hg19 H;refine yS ?_;clear H;intro w20 H;refine yN ?_;clear H G;intro u21 H;refine zG (bg HS.out.1 u21 (HX.out.below H.O)) ?_;rintro e w22 ⟨AC,cC,cssC,FC,rfl,hox,hb⟩;replace H:=H.ox hb hox;clear hox hb;refine zS_ ?_;clear H;intro u23 H
      exact⟨((net,s),tNo),AC,cC,cssC,FC,HLN.out,rfl,(H.x 0),H.O⟩
     | some r =>
      have HLN:Hid (LnR net s l r):=by unfold Hid LnR;rw[HC1.out,HCM.out];exact .inr ⟨HNF.out,.inl ⟨ms,by rw[HC2.out];exact HRD.out,by rw[hres];rfl⟩⟩
      have HRES:=Qh hres;clear hres;refine zN ?_;clear H;intro u13 H;have hZ9:=Blk.lt (H.k 1);have hZ8:=Blk.lt (H.k 4);have E:=H.el;refine zXF (tgF [w9.heap.size,w.heap.size] 10 13 (.cells #[.slice none 0 0,.int .i64 0] 25)) ?_;clear H;intro S w14 hne H;refine zD ((And.intro (H.c 1) (H.c 4))) ?_;intro G;intros;refine f_ (fun w15 (hb:Bw w14 w15)=>bg HS.out.1 w15 (HX.out.below (H.b hb).O)) ?_;clear H
      rintro w15 K hK H e w16 ⟨AC,cC,cssC,FC,rfl,hox,hb⟩;replace H:=H.ox hb hox;clear hox;refine fK ?_;clear hK K hb;intros;refine fU (fun w17 (hb:Bw w16 w17)=>HACT.out w17 net s ms _ _ _ _ _ _ _ _ _ ((H.b hb).p 3) HS.out HRD.out.mv HRD.out.1 (H.b hb).O.size rfl ((H.b hb).x 0) ((H.b hb).f 1).1 (HT.out.below (H.b hb).O Ql)) ?_;clear H
      rintro w17 K hK H e w18 hr;rw[HRES.out] at hr;have hb:=hr.2.kz (b:=u13.heap.size) (Z:= .cells #[.slice none 0 0,.int .i64 0] 25) (OX.neS (H.x 0) _);obtain⟨⟨A5,c5,css5,F5,rfl,X5⟩,hu⟩:=hr;replace H:=Hr.ul H hu (fun i hi=>hi) (by repeat (first|exact all_nil|refine all_cons (Hq.nbs H.H (by repeat (with_reducible first|exact Has.h0|apply Has.t0))) ?_))
      refine fKU ?_;clear hK K hb hu;refine yGv ?_;clear H;intro w19 g19 hg19 X5 H;replace H:=H.d 1;replace H:=H.d 1;replace H:=H.d 1;replace H:=H.d 2;replace H:=Hr.adV H X5;clear X5;refine yS ?_;clear H;intro w20 H;refine yN ?_;clear H G;intro u21 H;refine zS_ ?_;clear H;intro u22 H
      exact⟨r,A5,c5,css5,F5,HLN.out,rfl,(H.x 0),H.O⟩
    ·replace H:=H.b hb;have HLN:Hid (LnR net s l ((net,s),tNo)):=by unfold Hid LnR;rw[HC1.out,HCM.out];exact .inr ⟨HNF.out,.inr ⟨by rw[HC2.out];exact hrd,rfl⟩⟩
     clear hrd hb;refine zN ?_;clear H;intro u13 H;refine zG (bg HS.out.1 u13 (HX.out.below H.O)) ?_;rintro e w14 ⟨AC,cC,cssC,FC,rfl,hox,hb⟩;replace H:=H.ox hb hox;clear hox hb;refine zS_ ?_;clear H;intro u15 H
     exact⟨((net,s),tNo),AC,cC,cssC,FC,HLN.out,rfl,(H.x 0),H.O⟩
  ·have e0:((kk:Int) == 0)=false:=by simp;omega
   have e1:decide (0<(kk:Int))=true:=by simp;omega
   have e2:0<(kk:Int):=by omega
   have e3:¬(kk:Int)=0:=by omega
   by_cases htx:tx=[]
   ·have HLN:Hid (LnR net s l ((net,s),fa)):=by unfold Hid LnR;rw[HC1.out,HCM.out];exact .inl ⟨.inr ⟨k0,by rw[HC2.out];exact htx⟩,rfl⟩
    subst htx;have e4:(bs []).toList.isEmpty=true:=by rw[GR];exact(jo _ _).2 rfl
    refine zC ?_;intro C;intros
    go_wp2_with (with_reducible refine gn 64 rfl ?_)
    refine zM ?_;clear H C;intro u10 H;intros;refine Qh ?_;refine zSt ?_;clear H;intro w10 H;refine zN ?_;clear H;intro u11 H;refine zG (bg HS.out.1 u11 (HX.out.below H.O)) ?_;rintro e w12 ⟨AC,cC,cssC,FC,rfl,hox,hb⟩;replace H:=H.ox hb hox;clear hox hb;refine zS_ ?_;clear H;intro u13 H
    exact⟨((net,s),fa),AC,cC,cssC,FC,HLN.out,rfl,(H.x 0),H.O⟩
   ·have htb:(bs tx).toList.isEmpty=false:=by rw[GR];exact iE (fun e=>htx (by have h:=congrArg (fun b:ByteArray=>b.data.toList) e;simpa [bs] using h))
    have HTL:Hid (tx.length<=1048576):=by unfold Hid;rw[<-HC2.out];exact Nat.le_trans (tR l) HL.out
    have HK0:Hid (kk=0->tx=[]):=fun h=>absurd h (by omega)
    have HNF:Hid (¬uV kk (Lib.cut l [32])):=by unfold Hid uV;rw[HC2.out];rintro(⟨h,_⟩|⟨_,h⟩);omega;exact htx h
    refine zC ?_;intro C;intros
    go_wp2_with (with_reducible refine gn 64 rfl ?_)
    refine zM ?_;clear H C;intro u10 H;intros;refine Qh ?_;refine zSt ?_;clear H;intro w10 H;refine zN ?_;clear H;intro u11 H;refine zG (t_ tx HTL.out kk hk3 HK0.out u11 (HT.out.below H.O Ql) (HM.out.below H.O Ql)) ?_;rintro e wR (⟨ms,AM,cM,FM,hrd,rfl,hrm,hrf,hb⟩|⟨hrd,rfl,hb⟩)
    ·replace H:=H.rf hb hrm hrf;have HRD:=Qh hrd;clear hrd hrm hrf hb
     cases hres:f ms net s with
     | none =>
      have HLN:Hid (LnR net s l ((net,s),tNo)):=by unfold Hid LnR;rw[HC1.out,HCM.out];exact .inr ⟨HNF.out,.inl ⟨ms,by rw[HC2.out];exact HRD.out,by rw[hres];rfl⟩⟩
      have HRES:=Qh hres;clear hres;refine zN ?_;clear H;intro u13 H;have E:=H.el;refine zXF (tgF [w9.heap.size,w.heap.size] 10 13 (.cells #[.slice none 0 0,.int .i64 0] 25)) ?_;clear H;intro S w14 hne H;refine zD ((And.intro (H.c 1) (H.c 4))) ?_;intro G;intros;refine f_ (fun w15 (hb:Bw w14 w15)=>bg HS.out.1 w15 (HX.out.below (H.b hb).O)) ?_;clear H
      rintro w15 K hK H e w16 ⟨AC,cC,cssC,FC,rfl,hox,hb⟩;replace H:=H.ox hb hox;clear hox;refine fK ?_;clear hK K hb;intros;refine fU (fun w17 (hb:Bw w16 w17)=>HACT.out w17 net s ms _ _ _ _ _ _ _ _ _ ((H.b hb).p 3) HS.out HRD.out.mv HRD.out.1 (H.b hb).O.size rfl ((H.b hb).x 0) ((H.b hb).f 1).1 (HT.out.below (H.b hb).O Ql)) ?_;clear H
      rintro w17 K hK H e w18 hr;rw[HRES.out] at hr;have hb:=hr.2.kz (b:=u13.heap.size) (Z:= .cells #[.slice none 0 0,.int .i64 0] 25) (OX.neS (H.x 0) _);obtain⟨rfl,hu⟩:=hr;replace H:=Hr.ul H hu (fun i hi=>hi) (by repeat (first|exact all_nil|refine all_cons (Hq.nbs H.H (by repeat (with_reducible first|exact Has.h0|apply Has.t0))) ?_))
      refine fKU ?_;clear hK K hb hu;refine yGv ?_;clear H;intro w19 g19 hg19 H;refine yS ?_;clear H;intro w20 H;refine yN ?_;clear H G;intro u21 H;refine zG (bg HS.out.1 u21 (HX.out.below H.O)) ?_;rintro e w22 ⟨AC,cC,cssC,FC,rfl,hox,hb⟩;replace H:=H.ox hb hox;clear hox hb;refine zS_ ?_;clear H;intro u23 H
      exact⟨((net,s),tNo),AC,cC,cssC,FC,HLN.out,rfl,(H.x 0),H.O⟩
     | some r =>
      have HLN:Hid (LnR net s l r):=by unfold Hid LnR;rw[HC1.out,HCM.out];exact .inr ⟨HNF.out,.inl ⟨ms,by rw[HC2.out];exact HRD.out,by rw[hres];rfl⟩⟩
      have HRES:=Qh hres;clear hres;refine zN ?_;clear H;intro u13 H;have hZ9:=Blk.lt (H.k 1);have hZ8:=Blk.lt (H.k 4);have E:=H.el;refine zXF (tgF [w9.heap.size,w.heap.size] 10 13 (.cells #[.slice none 0 0,.int .i64 0] 25)) ?_;clear H;intro S w14 hne H;refine zD ((And.intro (H.c 1) (H.c 4))) ?_;intro G;intros;refine f_ (fun w15 (hb:Bw w14 w15)=>bg HS.out.1 w15 (HX.out.below (H.b hb).O)) ?_;clear H
      rintro w15 K hK H e w16 ⟨AC,cC,cssC,FC,rfl,hox,hb⟩;replace H:=H.ox hb hox;clear hox;refine fK ?_;clear hK K hb;intros;refine fU (fun w17 (hb:Bw w16 w17)=>HACT.out w17 net s ms _ _ _ _ _ _ _ _ _ ((H.b hb).p 3) HS.out HRD.out.mv HRD.out.1 (H.b hb).O.size rfl ((H.b hb).x 0) ((H.b hb).f 1).1 (HT.out.below (H.b hb).O Ql)) ?_;clear H
      rintro w17 K hK H e w18 hr;rw[HRES.out] at hr;have hb:=hr.2.kz (b:=u13.heap.size) (Z:= .cells #[.slice none 0 0,.int .i64 0] 25) (OX.neS (H.x 0) _);obtain⟨⟨A5,c5,css5,F5,rfl,X5⟩,hu⟩:=hr;replace H:=Hr.ul H hu (fun i hi=>hi) (by repeat (first|exact all_nil|refine all_cons (Hq.nbs H.H (by repeat (with_reducible first|exact Has.h0|apply Has.t0))) ?_))
      refine fKU ?_;clear hK K hb hu;refine yGv ?_;clear H;intro w19 g19 hg19 X5 H;replace H:=H.d 1;replace H:=H.d 1;replace H:=H.d 1;replace H:=H.d 2;replace H:=Hr.adV H X5;clear X5;refine yS ?_;clear H;intro w20 H;refine yN ?_;clear H G;intro u21 H;refine zS_ ?_;clear H;intro u22 H
      exact⟨r,A5,c5,css5,F5,HLN.out,rfl,(H.x 0),H.O⟩
    ·replace H:=H.b hb;have HLN:Hid (LnR net s l ((net,s),tNo)):=by unfold Hid LnR;rw[HC1.out,HCM.out];exact .inr ⟨HNF.out,.inr ⟨by rw[HC2.out];exact hrd,rfl⟩⟩
     clear hrd hb;refine zN ?_;clear H;intro u13 H;refine zG (bg HS.out.1 u13 (HX.out.below H.O)) ?_;rintro e w14 ⟨AC,cC,cssC,FC,rfl,hox,hb⟩;replace H:=H.ox hb hox;clear hox hb;refine zS_ ?_;clear H;intro u15 H
     exact⟨((net,s),tNo),AC,cC,cssC,FC,HLN.out,rfl,(H.x 0),H.O⟩
end
section
attribute [local go_sem] af ah ae
def AdR (base:Nat) (A:Option Addr) (c:Nat) (css:List (List Value)) (F:List Nat) (net:List SL) (s:Int) (res:Option Res) (w:World) (e:Ending) (w':World):Prop:=(match res with
 | none=>e= .returned (.tuple #[.agg #[.slice A net.length c,.int .i64 s],.string (bs [110,111])])/\OX (kE smE) w' base 99 A net.length c css net F
 | some r=>∃ A' c' css' F',e= .returned (.tuple #[.agg #[.slice A' r.1.1.length c',.int .i64 r.1.2],.string (bs r.2)])/\OX (kE smE) w' base 99 A' r.1.1.length c' css' r.1.1 F')/\UpL (fun i=>blk A=some i\/i∈F) w w'
theorem pz {kd s:Int} {ms:List Mx} (hl:aL kd ms=true) (hs:sdB s=true):gH [(kd,ms)] s=true:=by
 unfold gH
 simp[hl,hs]
theorem qE {kd s:Int} {net:List SL} {ms:List Mx} (hl:aL kd ms=false) (hs:sdB s=true) {base c c2:Nat} {A B:Option Addr} {css:List (List Value)} {F FM:List Nat} (w:World) (hbw:base<=w.heap.size) (hox:OX (kE smE) w base 99 A net.length c css net F) (hms:RI mxE w B ms.length c2 ms FM) (hmS:∀ m,m∈ms->mS m) (hml:ms.length<=1048576) :
  Calls prog 44 #[.agg #[.slice A net.length c,.int .i64 s],.agg #[.int .i64 kd,.slice B ms.length c2]] w (AdR base A c css F net s (dI kd ms net s) w):=by
 have hns:GH (kS mS) [(kd,ms)]:=⟨by simp,fun l hl=>by obtain rfl:l=(kd,ms):=(by simpa using hl);exact⟨hml,hmS⟩⟩
 have HSP:Hid (o_ [(kd,ms)] s=([],0)):=by show _=_;rw[tz (rZ (k:=0) (l:=(kd,ms)) rfl hl)]
 have HPA:Hid (dI kd ms net s=none):=by show _=_;unfold dI;rw[if_neg (by rw[hl];simp)]
 have HZ:=Qh (Hq.rs0 hox);have HOX:=Qh hox;have HBW:=Qh hbw;have HMS:=Qh hms;have HNS:=Qh hns;clear hns hox hbw hms hmS hml hl hs;refine zE ?_;intro u1 H;have hms1:=RI.below HMS.out H.O;replace H:=HZ.out.join H (by repeat constructor)
 refine zG (jP _ _ _ [(kd,ms)] _ s u1 (RI.one (E:=kE mxE) (cs:=[.int .i64 kd,.slice B ms.length c2]) (x:=(kd,ms)) (H.k 0) ⟨B,c2,rfl,hms1⟩) HNS.out) ?_;rintro e w2 ⟨A2,n2,c3,css2,F2,rfl,hox2,hb⟩;replace H:=H.ox hb hox2;clear hox2 hb hms1;rw[HSP.out] at H ⊢
 dsimp only at H ⊢
 refine zS_ ?_;clear H;intro u3 H
 exact(by obtain⟨h1,h2⟩:=Hq.rsX HOX.out HBW.out (((((H.d 0).d 0).d 0).d 0).d 0);rw[HPA.out];exact⟨⟨rfl,h1⟩,h2⟩)
theorem Gh {kd s:Int} {net:List SL} {ms:List Mx} (hl:aL kd ms=true) (h4:net.length=4) (hs:sdB s=true) {base c c2:Nat} {A B:Option Addr} {css:List (List Value)} {F FM:List Nat} (w:World) (hbw:base<=w.heap.size) (hox:OX (kE smE) w base 99 A net.length c css net F) (hms:RI mxE w B ms.length c2 ms FM) (hmS:∀ m,m∈ms->mS m) (hml:ms.length<=1048576) :
  Calls prog 44 #[.agg #[.slice A net.length c,.int .i64 s],.agg #[.int .i64 kd,.slice B ms.length c2]] w (AdR base A c css F net s (dI kd ms net s) w):=by
 have hns:GH (kS mS) [(kd,ms)]:=⟨by simp,fun l hl=>by obtain rfl:l=(kd,ms):=(by simpa using hl);exact⟨hml,hmS⟩⟩
 have HSP:Hid (o_ [(kd,ms)] s=([(kd,(aP ms s).1)],(aP ms s).2)):=by show _=_;rw[tA (pz hl hs)];rfl
 have HPA:Hid (dI kd ms net s=none):=by show _=_;unfold dI;rw[if_neg (by omega)]
 have hqs:sdB (aP ms s).2=true:=fE hs (lD hl);obtain⟨P,hP⟩:∃ P,P=(aP ms s).1:=⟨_,rfl⟩;obtain⟨q2,hq2⟩:∃ y,y=(aP ms s).2:=⟨_,rfl⟩;rw[<-hP,<-hq2] at HSP;rw[<-hq2] at hqs;have hq0:¬q2=0:=by have:=dH hqs;omega
 have hqb:(q2 == 0)=false:=by simpa using hq0
 clear hqs hP hq2;have HZ:=Qh (Hq.rs0 hox);have HOX:=Qh hox;have HBW:=Qh hbw;have HMS:=Qh hms;have HNS:=Qh hns;clear hns hox hbw hms hmS hml hl hs;refine zE ?_;intro u1 H;have hms1:=RI.below HMS.out H.O;replace H:=HZ.out.join H (by repeat constructor)
 refine zG (jP _ _ _ [(kd,ms)] _ s u1 (RI.one (E:=kE mxE) (cs:=[.int .i64 kd,.slice B ms.length c2]) (x:=(kd,ms)) (H.k 0) ⟨B,c2,rfl,hms1⟩) HNS.out) ?_;rintro e w2 ⟨A2,n2,c3,css2,F2,rfl,hox2,hb⟩;replace H:=H.ox hb hox2;clear hox2 hb hms1;rw[HSP.out] at H ⊢
 dsimp only at H ⊢
 have e4:((net.length:Int) == 4)=true:=by simp;omega
 refine zS_ ?_;clear H;intro u3 H
 exact(by obtain⟨h1,h2⟩:=Hq.rsX HOX.out HBW.out (((((H.d 0).d 0).d 0).d 0).d 0);rw[HPA.out];exact⟨⟨by rw[h4];rfl,h1⟩,h2⟩)
theorem sC {kd s:Int} {net:List SL} {ms:List Mx} (hl:aL kd ms=true) (h4:net.length<4) (hs:sdB s=true) {base c c2:Nat} {A B:Option Addr} {css:List (List Value)} {F FM:List Nat} (w:World) (hbw:base<=w.heap.size) (hox:OX (kE smE) w base 99 A net.length c css net F) (hms:RI mxE w B ms.length c2 ms FM) (hmS:∀ m,m∈ms->mS m) (hml:ms.length<=1048576) :
  Calls prog 44 #[.agg #[.slice A net.length c,.int .i64 s],.agg #[.int .i64 kd,.slice B ms.length c2]] w (AdR base A c css F net s (dI kd ms net s) w):=by
 have hns:GH (kS mS) [(kd,ms)]:=⟨by simp,fun l hl=>by obtain rfl:l=(kd,ms):=(by simpa using hl);exact⟨hml,hmS⟩⟩
 have HSP:Hid (o_ [(kd,ms)] s=([(kd,(aP ms s).1)],(aP ms s).2)):=by show _=_;rw[tA (pz hl hs)];rfl
 have HPA:Hid (dI kd ms net s=some ((net++[(kd,(aP ms s).1)],(aP ms s).2),[111,107])):=by show _=_;unfold dI;rw[if_pos ⟨hl,h4⟩]
 have hqs:sdB (aP ms s).2=true:=fE hs (lD hl);obtain⟨P,hP⟩:∃ P,P=(aP ms s).1:=⟨_,rfl⟩;obtain⟨q2,hq2⟩:∃ y,y=(aP ms s).2:=⟨_,rfl⟩;rw[<-hP,<-hq2] at HSP HPA;rw[<-hq2] at hqs;have hq0:¬q2=0:=by have:=dH hqs;omega
 have hqb:(q2 == 0)=false:=by simpa using hq0
 clear hqs hP hq2;have hll:(net++[(kd,P)]).length=net.length+1:=by simp
 have HZ:=Qh (Hq.rs0 hox);have HOX:=Qh hox;have HBW:=Qh hbw;have HMS:=Qh hms;have HNS:=Qh hns;clear hns hox hbw hms hmS hml hl hs;refine zE ?_;intro u1 H;have hms1:=RI.below HMS.out H.O;replace H:=HZ.out.join H (by repeat constructor)
 refine zG (jP _ _ _ [(kd,ms)] _ s u1 (RI.one (E:=kE mxE) (cs:=[.int .i64 kd,.slice B ms.length c2]) (x:=(kd,ms)) (H.k 0) ⟨B,c2,rfl,hms1⟩) HNS.out) ?_;rintro e w2 ⟨A2,n2,c3,css2,F2,rfl,hox2,hb⟩;replace H:=H.ox hb hox2;clear hox2 hb hms1;rw[HSP.out] at H ⊢
 dsimp only at H ⊢
 have e4:((net.length:Int) == 4)=false:=by simp;omega
 have e5:¬(net.length:Int)=4:=by omega
 obtain⟨cs2,g2,rfl,rfl,rfl,hp2,-⟩:=OX.one (H.x 0);obtain⟨A3,c4,rfl,-⟩:=hp2;refine zN ?_;clear H;intro u3 H;have ez:=(OX.ft (H.x 0)).2.2.2;refine zXZ (tg [w.heap.size,g2]) ?_;clear H;intro S w4 hne H;refine zD (H.c 4) ?_;intro G;have r0:=H.row (show World.cell? _ ⟨g2,0,none⟩=some (.int .i64 kd) from(OX.ft (H.x 0)).2.2.1 0 (by decide))
 have r1:=H.row (show World.cell? _ ⟨g2,1,none⟩=some (.slice A3 P.length c4) from(OX.ft (H.x 0)).2.2.1 1 (by decide))
 refine yM ?_;clear H;intro w5 H;have e2:=OX.ft (H.x 1);have hx:=e2.1;have hf:=e2.2.1.mono (Nat.zero_le _:(fI w).heap.size<=_);have hng:blk A≠some g2:=fun e=>by refine H.H.noo 6 1 g2 ?_ ?_;exact Or.inl e;exact Or.inl rfl
 replace H:=((H.r 1).r 6);refine yX (an4 zY hx hf (fun i hi=>Or.inr hi)) ?_;clear H e2 hx hf hng;intro g1 k1 w6 H
 intros;refine zCr ?_;intro C;intros
 repeat (first|(refine lc' ?_;intro K hK;go_big_quiet_op;go_big_quiet_on)|refine lk' ?_)
 refine aV rfl (by rfl) (by rfl) (fun K hK=>?_)
 unfold Oper.gives
 go_simp
 refine hK _ _ ?_;replace H:=H.H;refine aI ?_;clear C G;refine zS_ ?_;clear H;intro u7 H
 exact(by obtain⟨h1,h2⟩:=Hq.rsX HOX.out HBW.out (((((H.d 1).d 1).d 1).d 1).d 1);rw[HPA.out];exact⟨⟨some ⟨g1,0,none⟩,k1,_,_,by dsimp only;rw[hll];rfl,by dsimp only;rw[hll];exact h1⟩,h2⟩)
theorem jR {kd s:Int} {net:List SL} {ms:List Mx} (h4:net.length<=4) (hs:sdB s=true) {base c c2:Nat} {A B:Option Addr} {css:List (List Value)} {F FM:List Nat} (w:World) (hbw:base<=w.heap.size) (hox:OX (kE smE) w base 99 A net.length c css net F) (hms:RI mxE w B ms.length c2 ms FM) (hmS:∀ m,m∈ms->mS m) (hml:ms.length<=1048576) :
  Calls prog 44 #[.agg #[.slice A net.length c,.int .i64 s],.agg #[.int .i64 kd,.slice B ms.length c2]] w (AdR base A c css F net s (dI kd ms net s) w):=by
 cases hl:aL kd ms
 ·exact qE hl hs w hbw hox hms hmS hml
 ·by_cases h:net.length<4
  ·exact sC hl h hs w hbw hox hms hmS hml
  ·exact Gh hl (by omega) hs w hbw hox hms hmS hml
end
def Wk (l:List UInt8) (k:Nat) (W:List (List UInt8)):Prop:=W≠[]/\(∀ x∈W,(32:UInt8)∉x)/\Lib.join W [32]=l.take k
theorem Wk.start (l:List UInt8):Wk l 0 [[]]:=⟨by simp,by simp,by simp[Lib.join_one]⟩
theorem Wk.space {l:List UInt8} {k:Nat} {W:List (List UInt8)} (h:Wk l k W) (hk:k<l.length) (hc:l[k]=32):Wk l (k+1) (W++[[]]):=by
 obtain⟨h1,h2,h3⟩:=h;refine⟨by simp,fun x hx=>?_,?_⟩
 ·rcases List.mem_append.1 hx with hx|hx
  ·exact h2 x hx
  ·have:x=[]:=by simpa using hx
   rw[this];simp
 ·rw[fo h1,h3,List.take_succ_eq_append_getElem hk,hc,List.append_nil]
theorem Wk.more {l:List UInt8} {k m:Nat} {W:List (List UInt8)} {x:List UInt8} {c:UInt8} (h:Wk l k W) (hk:k<l.length) (hc:l[k]=c) (hne:c≠32) (hm:W.length=m+1) (hx:W.getD m []=x):Wk l (k+1) (W.set m (x++[c])):=by
 obtain⟨h1,h2,h3⟩:=h;obtain⟨I,hI⟩:∃ I,W=I++[x]/\I.length=m:=by
  refine⟨W.take m,?_,by rw[List.length_take];omega⟩
  have:=List.take_succ_eq_append_getElem (l:=W) (i:=m) (by omega)
  rw[List.take_of_length_le (by omega)] at this
  rw[List.getD_eq_getElem?_getD,List.getElem?_eq_getElem (by omega)] at hx
  rw[<-hx]
  exact this
 obtain⟨rfl,hIm⟩:=hI;have e:(I++[x]).set m (x++[c])=I++[x++[c]]:=by
  rw[List.set_append_right _ _ (by omega),hIm,Nat.sub_self]
  rfl
 rw[e];refine⟨by simp,fun y hy=>?_,?_⟩
 ·rcases List.mem_append.1 hy with hy|hy
  ·exact h2 y (List.mem_append_left _ hy)
  ·have:y=x++[c]:=by simpa using hy
   rw[this];intro hm;rcases List.mem_append.1 hm with hm|hm
   ·exact h2 x (by simp) hm
   ·have:(32:UInt8)=c:=by simpa using hm
    exact hne this.symm
 ·rw[List.take_succ_eq_append_getElem hk,hc,<-h3]
  by_cases hI0:I=[]
  ·subst hI0;simp[Lib.join_one]
  ·rw[fo hI0,fo hI0];simp[List.append_assoc]
theorem Wk.fin {l:List UInt8} {W:List (List UInt8)} (h:Wk l l.length W):W=Lib.split l [32]:=by
 obtain⟨h1,h2,h3⟩:=h;rw[List.take_length] at h3;rw[<-h3]
 exact(kV h1 h2).symm
theorem Wk.len {l:List UInt8} {k:Nat} {W:List (List UInt8)} (h:Wk l k W):W.length<=l.length+1/\∀ x∈W,x.length<=l.length:=by
 obtain⟨h1,h2,h3⟩:=h;have e:Lib.split (l.take k) [32]=W:=by rw[<-h3];exact kV h1 h2
 have hk:(l.take k).length<=l.length:=by rw[List.length_take];omega
 refine⟨?_,fun x hx=>?_⟩
 ·have hl:∀ W:List (List UInt8),W≠[]->W.length<=(Lib.join W [32]).length+1:=by
   intro W
   induction W with
   | nil=>intro h;exact absurd rfl h
   | cons x W ih =>
    intro _
    by_cases hW:W=[]
    ·subst hW;simp
    ·rw[hU x hW,List.length_append,List.length_append,List.length_cons];have:=ih hW;simp only[List.length_cons,List.length_nil]
     omega
  have:=hl W h1;rw[h3] at this
  omega
 ·rw[<-e] at hx
  exact Nat.le_trans (bX (by simp) hx) hk
def Wi (l:List UInt8) (w wr:World) (k g m cap:Nat) (W:List (List UInt8)):Prop:=Wk l k W/\W.length=m+1/\VO wr w.heap.size 9 1 (some ⟨g,0,none⟩) (m+1) cap (strs W)/\Below w.heap.size w wr
theorem xl (W:List (List UInt8)) (m:Nat) (x:List UInt8):(strs W).set m (.string (bs x))=strs (W.set m x):=by
 simp[strs,List.map_set]
theorem tp (l:List UInt8) (hl:l.length<=1048577) (w:World):Calls prog 87 #[.string (bs l)] w fun e w'=>(∃ (A:Option Addr) (c:Nat),e= .returned (.slice A (Lib.split l [32]).length c)/\VO w' w.heap.size 9 1 A (Lib.split l [32]).length c (strs (Lib.split l [32])))/\Below w.heap.size w w':=by
 obtain⟨s,hs⟩:∃ s,s=bs l:=⟨_,rfl⟩;rw[<-hs];have hss:s.size=l.length:=by rw[hs,aK]
 have HS:=Qh hs;have HSS:=Qh hss;have HL:=Qh hl;have HZ:Hid (Wi l w (w.alloc (.cells #[.string ⟨#[]⟩] 9)) 0 w.heap.size 0 1 [[]]):=by
  refine⟨Wk.start l,rfl,?_,Qb.alloc Ql _⟩
  exact⟨by simp[strs],.inr ⟨w.heap.size,1,_,rfl,Nat.le_refl _,Blk.new w 9 _,Nat.le_refl _,by unfold maxLen;omega,by simp,rfl⟩⟩
 clear hs hss hl;obtain⟨i0',hi,hz0,hz1,hz2⟩:=info_parts mQ
 go_enter func87,ntmps87
 go_wp2_with fail
 go_loopw [3,4] (fun o q wr=>∃ (k g m cap:Nat) (W:List (List UInt8)),k<=s.size/\q= .int .i64 k/\o= .slice (some ⟨g,0,none⟩) (m+1) cap/\Hid (Wi l w wr k g m cap W)) (fun _ q _=>s.size-(intOf q).toNat)
 case atStart=>exact⟨0,_,0,1,_,Nat.zero_le _,rfl,rfl,HZ⟩
 case round =>
  obtain⟨k,g,m,cap,W,hk,rfl,rfl,hwi⟩:=hrel;obtain⟨wo,rfl⟩:∃ u:World,u=wr:=⟨_,rfl⟩;have hk64:(s.size:Int)<=1048577:=by have:=HSS.out;have:=HL.out;omega
  have k0:(0:Int)<=(k:Int):=by omega
  have hsz:w.heap.size<=wo.heap.size:=hwi.out.2.2.2.size;have hm:m+1<=1048578:=by have h1:=hwi.out.1.len.1;have h2:=hwi.out.2.1;have:=HL.out;omega
  by_cases hlt:k<s.size
  ·obtain⟨hkl,hbk⟩:=jY l HS.out k hlt;have k1:(k:Int)<(s.size:Int):=by omega
   have k2:((k:Int)+1)<=(s.size:Int):=by omega
   obtain⟨c,hc⟩:∃ c,l[k]=c:=⟨_,rfl⟩;have hsc:s[k]=c:=by rw[<-hbk];exact hc
   have HC:=Qh hc;clear hc hbk
   by_cases hsp:c=32
   ·have hcb:((c.toNat:Int) == 32)=true:=by rw[hsp];rfl
    have HNX:=Qh (hwi.out.1.space hkl (by rw[HC.out];exact hsp))
    clear hsp
    go_wp2_with (at_builtin;refine wpList_append_lies _ rfl _ _ 48 rfl w.heap.size 9 i0' (.string ByteArray.empty) 1 16 underlying48 hi hz0 hz1 hz2 rfl (by decide) (.slice (some ⟨g,0,none⟩) (m+1) cap) (m+1) _ rfl (World.ownsRow.alloc hwi.out.2.2.1 _) ⟨wo.heap.size,0,none⟩ 1 1 [.string ⟨#[]⟩] rfl rfl ?c1 ?c2 ?c3 ?c4 ?c5 ?c6 (wo.heap.size+1) ?c7 ?_)
    case c1=>exact fk _ _ _
    case c2=>simp[Value.oneCell']
    case c3=>omega
    case c4=>unfold maxLen;omega
    case c5=>omega
    case c6=>simp;omega
    case c7=>simp
    intro g' cap' w2 hown hgrow hat _;have hNX:Hid (Wi l w w2 (k+1) g' (m+1) cap' (W++[[]])):=by
     obtain⟨k1,k2,_,_⟩:=VO.push hwi.out.2.2.1 hwi.out.2.2.2 Ql hwi.out.2.2.2.size hown hgrow hat;refine⟨HNX.out,by rw[List.length_append,hwi.out.2.1];rfl,?_,k2⟩
     have e:strs (W++[[]])=strs W++[.string ⟨#[]⟩]:=by simp[strs];rfl
     rw[e]
     exact k1
    clear hown hgrow hat HNX hwi;go_wp2
    go_roundw
    case rel=>exact⟨k+1,g',m+1,cap',_,by omega,by go_num,rfl,hNX⟩
    case measure=>simp[intOf];omega
   ·have hcb:((c.toNat:Int) == 32)=false:=by
     rw[beq_eq_false_iff_ne];intro h
     exact hsp (UInt8.toNat_inj.1 (by have e:(32:UInt8).toNat=32:=rfl;omega))
    obtain⟨x,hx⟩:∃ x,W.getD m []=x:=⟨_,rfl⟩;have HNX:=Qh (hwi.out.1.more hkl HC.out hsp hwi.out.2.1 hx);have hxl:x.length<=l.length:=hwi.out.1.len.2 x (by rw[<-hx];exact eS (by rw[hwi.out.2.1];omega))
    have cg:wo.cell? ⟨g,m,none⟩=some (.string (bs x)):=by rw[hwi.out.2.2.1.cell m (by omega),jh (by rw[hwi.out.2.1];omega),hx]
    have fg:wo.frozen? ⟨g,m,none⟩=false:=hwi.out.2.2.1.frozen m;have hex:s.extract k (k+1)=bs [c]:=by
     rw[HS.out];have h:((bs l).extract k (k+1)).data.toList=[c]:=by
      rw[Lib.extract_data]
      show (l.drop k).take (k+1-k)=[c]
      rw[<-HC.out,List.drop_eq_getElem_cons hkl];have e1:k+1-k=1:=by omega
      rw[e1]
      rfl
     rw[<-fe ((bs l).extract k (k+1)),h]
    have hap:bs x++bs [c]=bs (x++[c]):=bN _ _;have hov:(9223372036854775807<(bs x).size+(bs [c]).size)=False:=by
     rw[aK,aK];simp only[List.length_cons,List.length_nil,eq_iff_iff,iff_false];have:=HL.out
     omega
    have m0:(0:Int)<=(m:Int):=by omega
    have m1:(m:Int)<(m:Int)+1:=by omega
    clear hx hxl hsp
    go_wp2_with fail
    go_region
    have hNX:Hid (Wi l w (wo.setCell ⟨g,m,none⟩ (.string (bs (x++[c])))).drew (k+1) g m cap (W.set m (x++[c]))):=by
     refine⟨HNX.out,by rw[List.length_set,hwi.out.2.1],?_,(hwi.out.2.2.2.setCell (hwi.out.2.2.1.aj g rfl).1 _).drew⟩
     rw[<-xl]
     exact VO.drewN (hwi.out.2.2.1.store m (.string (bs (x++[c])))) 1
    clear HNX hwi;go_wp2
    go_roundw
    case rel=>exact⟨k+1,g,m,cap,_,by omega,by go_num,rfl,hNX⟩
    case measure=>simp[intOf];omega
  ·obtain rfl:k=s.size:=by omega
   have hfin:Hid (W=Lib.split l [32]):=by
    have h:=hwi.out.1;rw[HSS.out] at h
    exact h.fin
   have hn:Hid (m+1=(Lib.split l [32]).length):=by show _=_;rw[<-hfin.out,hwi.out.2.1]
   have HV:Hid (VO wo w.heap.size 9 1 (some ⟨g,0,none⟩) (Lib.split l [32]).length cap (strs (Lib.split l [32]))):=by
    have h:=hwi.out.2.2.1;rw[hfin.out,hn.out] at h
    exact h
   have HB:=Qh hwi.out.2.2.2;clear hwi;go_wp2
   go_ret
   exact⟨⟨_,cap,lI (A:=some ⟨g,0,none⟩) hn.out,HV.out⟩,HB.out⟩
theorem m_ (l:List UInt8) (a b:Nat):(bs l).extract a b=bs ((l.drop a).take (b-a)):=by
 have h:((bs l).extract a b).data.toList=(l.drop a).take (b-a):=by
  rw[Lib.extract_data]
  simp[bs]
 rw[<-fe ((bs l).extract a b),h]
theorem xI {l:List UInt8} {k:Nat} (hk:k<l.length) (h:(32:UInt8)∉l.take k) (hc:l[k]=32):Lib.cut l [32]=(l.take k,l.drop (k+1),true):=by
 have e:l.take k++(([32]:List UInt8)++l.drop (k+1))=l:=by
  have h2:=List.drop_eq_getElem_cons hk;rw[hc] at h2
  show l.take k++32::l.drop (k+1)=l
  rw[<-h2,List.take_append_drop]
 have hi:Lib.index l [32]=(k:Int):=by
  have h3:=po (b:=l.drop (k+1)) (sr:=[]) h;rw[e,List.length_take,Nat.min_eq_left (by omega)] at h3
  exact h3
 unfold Lib.cut;rw[hi,if_pos (by omega)]
 rfl
theorem vN {l:List UInt8} (h:(32:UInt8)∉l):Lib.cut l [32]=(l,[],false):=by
 unfold Lib.cut;rw[DM h,if_neg (by omega)]
theorem xo {l:List UInt8} {k:Nat} (hk:k<l.length) (h:(32:UInt8)∉l.take k) (hc:l[k]≠32):(32:UInt8)∉l.take (k+1):=by
 rw[List.take_succ_eq_append_getElem hk];simp only[List.mem_append,List.mem_singleton,not_or]
 exact⟨h,fun e=>hc e.symm⟩
theorem qG (l:List UInt8) (hl:l.length<=1048576) (w:World):Calls prog 40 #[.string (bs l)] w fun e w'=>e= .returned (.tuple #[.string (bs (Lib.cut l [32]).1),.string (bs (Lib.cut l [32]).2.1)])/\Below w.heap.size w w':=by
 obtain⟨s,hs⟩:∃ s,s=bs l:=⟨_,rfl⟩;rw[<-hs];have hss:s.size=l.length:=by rw[hs,aK]
 have HS:=Qh hs;have HSS:=Qh hss;have HL:=Qh hl;have HB:Hid (Below w.heap.size w w):=Below.refl _ _;have H0:Hid ((32:UInt8)∉l.take 0):=by unfold Hid;simp
 clear hs hss hl
 go_enter func40,ntmps40
 go_wp2_with fail
 go_loopw [4] (fun q wr=>∃ k:Nat,k<=s.size/\q= .int .i64 k/\Hid ((32:UInt8)∉l.take k)/\Hid (Below w.heap.size w wr)) (fun q _=>s.size-(intOf q).toNat)
 case atStart=>exact⟨0,Nat.zero_le _,rfl,H0,HB⟩
 case round =>
  clear H0 HB;obtain⟨k,hk,rfl,hno,HB⟩:=hrel;have hk64:(s.size:Int)<=1048577:=by have:=HSS.out;have:=HL.out;omega
  have k0:(0:Int)<=(k:Int):=by omega
  by_cases hlt:k<s.size
  ·obtain⟨hkl,hbk⟩:=jY l HS.out k hlt;have k1:(k:Int)<(s.size:Int):=by omega
   have k2:((k:Int)+1)<=(s.size:Int):=by omega
   obtain⟨c,hc⟩:∃ c,l[k]=c:=⟨_,rfl⟩;have hsc:s[k]=c:=by rw[<-hbk];exact hc
   have HC:=Qh hc;clear hc hbk
   by_cases hsp:c=32
   ·have hcb:((c.toNat:Int) == 32)=true:=by rw[hsp];rfl
    have HCU:=Qh (xI hkl hno.out (by rw[HC.out];exact hsp))
    have h1:s.extract 0 k=bs (l.take k):=by rw[HS.out,m_];simp
    have h2:s.extract (k+1) s.size=bs (l.drop (k+1)):=by rw[HSS.out,HS.out,m_];rw[List.take_of_length_le (by simp)]
    clear hsp
    go_wp2_with fail
    go_region
    go_wp2
    go_ret2
    exact⟨by rw[HCU.out];rfl,HB.out.drew⟩
   ·have hcb:((c.toNat:Int) == 32)=false:=by
     rw[beq_eq_false_iff_ne];intro h
     exact hsp (UInt8.toNat_inj.1 (by have e:(32:UInt8).toNat=32:=rfl;omega))
    have HNX:=Qh (xo hkl hno.out (by rw[HC.out];exact hsp))
    clear hsp;go_wp2
    go_roundw
    case rel=>exact⟨k+1,by omega,by go_num,HNX,HB⟩
    case measure=>simp[intOf];omega
  ·obtain rfl:k=s.size:=by omega
   have HCU:Hid (Lib.cut l [32]=(l,[],false)):=vN (by have h:=hno.out;rwa [HSS.out,List.take_length] at h)
   go_wp2
   go_ret2
   exact⟨by rw[HCU.out,HS.out];rfl,HB.out⟩
def txE:Elt (List UInt8) where
 s:=1
 P:=fun _ cs x F=>cs=[.string (bs x)]/\F=[]
 len:=by rintro w cs x F ⟨rfl,_⟩;rfl
 au:=fun _ _ _ _ _ h _=>h
 lt:=by rintro w cs x F ⟨_,rfl⟩ g hg;cases hg
theorem yJ:ApI 48 9 1:=by obtain⟨i0,hi,hz0,hz1,hz2⟩:=info_parts mQ;exact⟨i0,_,_,underlying48,hi,hz0,hz1,hz2,rfl,by decide,by decide⟩
def zK (l:List UInt8) (w:World) (e:Ending) (w':World):Prop:=∃ A c css F,e= .returned (.slice A (dm l).length c)/\OX txE w' w.heap.size 9 A (dm l).length c css (dm l) F/\Below w.heap.size w w'
theorem nT {l sep:List UInt8} {f i:Nat}:Lib.occAt (l.drop f) sep i=Lib.occAt l sep (f+i):=by unfold Lib.occAt;rw[List.drop_drop]
theorem uY {l:List UInt8} {f k:Nat} (hf:f<=k) (hk:k+3<=l.length) (ho:Lib.occAt l eP k=true) (hno:∀ i,f<=i->i<k->Lib.occAt l eP i=false):Lib.split (l.drop f) eP=(l.drop f).take (k-f)::Lib.split (l.drop (k+3)) eP:=by
 have h:Lib.index (l.drop f) eP=((k-f:Nat):Int):=Lib.index_first (by rw[List.length_drop];omega) (by rw[nT,show f+(k-f)=k by omega];exact ho) (fun j hj=>by rw[nT];exact hno _ (by omega) (by omega))
 rw[lQ (by decide) h,List.drop_drop,show f+(k-f+eP.length)=k+3 from by show f+(k-f+3)=k+3;omega]
theorem uX {l:List UInt8} {f k:Nat} (hk:l.length<k+3) (hno:∀ i,f<=i->i<k->Lib.occAt l eP i=false):Lib.split (l.drop f) eP=[l.drop f]:=by
 rcases Lib.index_spec (l.drop f) eP with⟨h,_⟩|⟨i,_,_,h,_⟩
 ·exact ie h
 ·rw[nT] at h;have h2:=qp h;have h3:=congrArg List.length h2;simp only[List.length_append,List.length_take,List.length_drop] at h3;have h4:eP.length=3:=rfl
  by_cases hi:f+i<k
  ·rw[hno _ (by omega) hi] at h;cases h
  ·omega
theorem AK {l:List UInt8} {k:Nat} (hk:k+3<=l.length):Lib.occAt l eP k=decide ((l.drop k).take 3=eP):=by
 have h:Lib.occAt l eP k=true↔(l.drop k).take 3=eP:=by
  unfold Lib.occAt;rw[List.isPrefixOf_iff_prefix,List.prefix_iff_eq_take]
  exact⟨fun h=>h.symm,fun h=>h.symm⟩
 by_cases e:(l.drop k).take 3=eP
 ·rw[h.2 e,decide_eq_true e]
 ·rw[decide_eq_false e]
  exact Bool.eq_false_iff.2 fun h1=>e (h.1 h1)
theorem qF (l:List UInt8) (hl:l.length<=1048576) (w:World):Calls prog 41 #[.string (bs l)] w (zK l w):=by
 obtain⟨s,hs⟩:∃ s,s=bs l:=⟨_,rfl⟩;rw[<-hs];have hss:s.size=l.length:=by rw[hs,aK]
 have HS:=Qh hs;have HSS:=Qh hss;have HL:=Qh hl;have H0:Hid (dm l=[]++Lib.split (l.drop 0) eP/\∀ i,0<=i->i<0->Lib.occAt l eP i=false):=⟨rfl,fun i _ h=>by omega⟩
 clear hs hss hl
 go_in
 have H:=Hq.start w;go_wp2;refine nqW (Hq.bsX (T:=9) H txE rfl) ?_;clear H;intro u1 H;intros
 go_loopw [3,4,5] (fun vo vf vk wr=>∃ (f k n c:Nat) (A:Option Addr) (css:List (List Value)) (xs:List (List UInt8)) (F:List Nat),f<=k/\k<=s.size/\3*n<=f/\vo= .slice A n c/\vf= .int .i64 f/\vk= .int .i64 k/\Hid (dm l=xs++Lib.split (l.drop f) eP/\∀ i,f<=i->i<k->Lib.occAt l eP i=false)/\Hid (Hq w [qX txE w.heap.size 9 A n c css xs F] wr)) (fun _ _ q _=>s.size-(intOf q).toNat)
 case atStart=>exact⟨0,0,0,0,_,_,_,_,Nat.le_refl _,Nat.zero_le _,by omega,rfl,rfl,rfl,H0,H⟩
 case round =>
  clear H0 H;obtain⟨f,k,n,c,A,css,xs,F,hfk,hk,hn3,rfl,rfl,rfl,hst,H⟩:=hrel;have H:=H.out;have hk64:(s.size:Int)<=1048576:=by have:=HSS.out;have:=HL.out;omega
  have hkN:s.size<=1048576:=by omega
  have k0:(0:Int)<=(k:Int):=by omega
  have f0:(0:Int)<=(f:Int):=by omega
  have f1:(f:Int)<=(k:Int):=by omega
  by_cases hlt:k+3<=s.size
  ·have k1:(k:Int)+3<=(s.size:Int):=by omega
   have k2:(k:Int)<=(k:Int)+3:=by omega
   have k3:(k:Int)<=(s.size:Int):=by omega
   have ho:=AK (l:=l) (k:=k) (by have:=HSS.out;omega)
   have hex:s.extract k (k+3)=bs ((l.drop k).take 3):=by rw[HS.out,m_,show k+3-k=3 by omega]
   by_cases hoc:(l.drop k).take 3=eP
   ·rw[decide_eq_true hoc] at ho;rw[hoc] at hex;have HP:=Qh (uY hfk (by have:=HSS.out;omega) ho hst.out.2)
    have hpc:s.extract f k=bs ((l.drop f).take (k-f)):=by rw[HS.out,m_]
    obtain⟨x,hx⟩:∃ x,x=(l.drop f).take (k-f):=⟨_,rfl⟩;rw[<-hx] at hpc HP;have HST:Hid (dm l=(xs++[x])++Lib.split (l.drop (k+3)) eP/\∀ i,k+3<=i->i<k+3->Lib.occAt l eP i=false):=⟨by rw[hst.out.1,HP.out,List.append_assoc];rfl,fun i _ h=>by omega⟩
    have hcb:((bs eP).toList == [32,124,32])=true:=by rw[ByteArray.toList_eq];rfl
    clear ho hoc hx hst;refine zC ?_;intro C;intros
    go_wp2_with (at_builtin;refine zM ?_)
    clear H C;intro u2 H;replace H:=H.r 1;refine zAx (an4 yJ (show txE.P u2 [.string (bs x)] x [] from⟨rfl,rfl⟩) (Fr.nil u2 w.heap.size) (show ∀ i,i∈([]:List Nat)->(qB wr.heap.size 9 [.string (bs x)]).F i from fun i hi=>by cases hi)) ?_;clear H;intro g1 c1 w2 H
    refine zC ?_;intro C;intros;go_wp2
    go_roundw
    case rel=>exact⟨k+3,k+3,n+1,c1,some ⟨g1,0,none⟩,_,_,_,Nat.le_refl _,by omega,by omega,rfl,by go_num,by go_num,HST,H⟩
    case measure=>simp[intOf];omega
   ·rw[decide_eq_false hoc] at ho;have hcb:((bs ((l.drop k).take 3)).toList == [32,124,32])=false:=by
     rw[ByteArray.toList_eq]
     exact beq_eq_false_iff_ne.2 (fun e=>hoc (by simpa [bs] using e))
    have HST:Hid (dm l=xs++Lib.split (l.drop f) eP/\∀ i,f<=i->i<k+1->Lib.occAt l eP i=false):=⟨hst.out.1,fun i h1 h2=>by
     by_cases e:i=k
     ·rw[e];exact ho
     ·exact hst.out.2 i h1 (by omega)⟩
    clear ho hoc hst;refine zC ?_;intro C;intros;go_wp2
    go_roundw
    case rel=>exact⟨f,k+1,n,c,A,_,_,_,by omega,by omega,hn3,rfl,rfl,by go_num,HST,H⟩
    case measure=>simp[intOf];omega
  ·have k1:¬(k:Int)+3<=(s.size:Int):=by omega
   have k4:(f:Int)<=(s.size:Int):=by omega
   have HP:=Qh (uX (f:=f) (k:=k) (l:=l) (by have:=HSS.out;omega) hst.out.2)
   have hpc:s.extract f s.size=bs (l.drop f):=by rw[HSS.out,HS.out,m_];rw[List.take_of_length_le (by simp)]
   obtain⟨x,hx⟩:∃ x,x=l.drop f:=⟨_,rfl⟩;rw[<-hx] at hpc HP;have HST:Hid (dm l=xs++[x]):=by show _=_;rw[hst.out.1,<-hx,HP.out]
   clear hx hst;refine zC ?_;intro C;intros
   go_wp2_with (at_builtin;refine zM ?_)
   clear H C;intro u2 H;replace H:=H.r 1;refine zAx (an4 yJ (show txE.P u2 [.string (bs x)] x [] from⟨rfl,rfl⟩) (Fr.nil u2 w.heap.size) (show ∀ i,i∈([]:List Nat)->(qB wr.heap.size 9 [.string (bs x)]).F i from fun i hi=>by cases hi)) ?_;clear H;intro g1 c1 w2 H
   have hlen:(dm l).length=n+1:=by rw[HST.out];exact(H.x 0).2.1
   refine zR ?_;clear H;intro u3 H
   exact⟨some ⟨g1,0,none⟩,c1,_,_,by rw[hlen];rfl,by rw[hlen,HST.out];exact H.x 0,H.O⟩
def wk (v:List Int) (C n k:Nat):List UInt8:=fx (v.getD k 0)++(if (k+1)%C=0/\k+1<n then [59] else [])
theorem xS (v:List Int) (C n:Nat):∀ j,1<=j->j<=n->Lib.join ((List.range j).map (wk v C n)) [32]=st v C j++(if j%C=0/\j<n then [59] else []):=by
 intro j
 induction j with
 | zero=>intro h;omega
 | succ j ih =>
  intro _ hj;rw[List.range_succ,List.map_append,List.map_cons,List.map_nil]
  by_cases h0:j=0
  ·subst h0
   simp[Lib.join_one,wk,st]
  ·have hne:(List.range j).map (wk v C n)≠[]:=by
    intro h;have:=congrArg List.length h
    simp at this
    omega
   rw[fo hne,ih (by omega) (by omega),st,wk,if_neg h0]
   by_cases hm:j%C=0
   ·rw[if_pos ⟨hm,by omega⟩,if_pos hm];simp[List.append_assoc]
   ·rw[if_neg (fun h=>hm h.1),if_neg hm];simp[List.append_assoc]
theorem Bk (v:List Int) (C n k:Nat):(32:UInt8)∉wk v C n k:=by
 unfold wk;intro h;rcases List.mem_append.1 h with h|h
 ·exact pY _ (.inl rfl) h
 ·split at h
  ·exact absurd h (by decide)
  ·cases h
theorem sE {v:List Int} {R C:Nat} (R1:1<=R) (C1:1<=C) (hl:v.length=R*C):Lib.split (mtx v R C) [32]=(List.range (R*C)).map (wk v C (R*C)):=by
 have hn:1<=R*C:=Nat.mul_pos R1 C1;have h:=xS v C (R*C) (R*C) hn Ql;rw[if_neg (by omega),List.append_nil,uz v C C1 R (by omega)] at h
 rw[<-h];refine kV (fun e=>?_) fun x hx=>?_
 ·have:=congrArg List.length e
  simp at this
  omega
 ·obtain⟨y,_,rfl⟩:=List.mem_map.1 hx
  exact Bk v C _ y
def ed (w:List UInt8):Bool:=decide (w.getLast?=some 59)
def sw (w:List UInt8):List UInt8:=if ed w=true then w.dropLast else w
theorem yV (x:Int):ed (fx x)=false:=by
 unfold ed;rw[decide_eq_false_iff_not];intro h
 exact pY x (.inr rfl) (List.mem_of_getLast? h)
theorem pT (l:List UInt8):ed (l++[59])=true:=by simp[ed]
theorem Cf (x:Int):sw (fx x)=fx x:=by unfold sw;rw[yV];rfl
theorem uA (l:List UInt8):sw (l++[59])=l:=by unfold sw;rw[if_pos (pT l)];simp
def Ex (l:List UInt8) (k:Nat) (vs:List Int) (ro ga:Nat):Prop:=∀ m,mvB m=true->mt m=l->∃ R C:Nat,m.r=(R:Int)/\m.c=(C:Int)/\vs=m.v.take k/\ro=1+min (k/C) (R-1)/\ga=min k C
theorem Ex.start (l:List UInt8):Ex l 0 [] 1 0:=fun m hm _=>by
 obtain⟨R,C,hr,hc,R1,R5,C1,C5,hl,h25,hall⟩:=er hm
 exact⟨R,C,hr,hc,by simp,by simp,by simp⟩
theorem qQ {l:List UInt8} {m:Mx} (hm:mvB m=true) (hl:mt m=l) {k:Nat} (hk:k<(Lib.split l [32]).length):∃ R C:Nat,m.r=(R:Int)/\m.c=(C:Int)/\1<=R/\1<=C/\m.v.length=R*C/\R*C<=25/\k<R*C/\(Lib.split l [32]).length=R*C/\(0<=m.v.getD k 0/\m.v.getD k 0<=4095)/\(Lib.split l [32]).getD k []=wk m.v C (R*C) k:=by
 obtain⟨R,C,hr,hc,R1,R5,C1,C5,hlen,h25,hall⟩:=er hm;have e:Lib.split l [32]=(List.range (R*C)).map (wk m.v C (R*C)):=by rw[<-hl,l_ hm hr hc,sE R1 C1 hlen]
 rw[e] at hk ⊢;have hk2:k<R*C:=by simpa using hk
 exact⟨R,C,hr,hc,R1,C1,hlen,h25,hk2,by simp,sQ hall (by omega),by simp[List.getD_eq_getElem?_getD,hk2]⟩
theorem E8 (v:List Int) (C n k:Nat):sw (wk v C n k)=fx (v.getD k 0)/\ed (wk v C n k)=decide ((k+1)%C=0/\k+1<n):=by
 unfold wk
 by_cases h:(k+1)%C=0/\k+1<n
 ·rw[if_pos h,decide_eq_true h]
  exact⟨uA _,pT _⟩
 ·rw[if_neg h,decide_eq_false h,List.append_nil]
  exact⟨Cf _,yV _⟩
theorem Gj {k C:Nat} (hC:1<=C):(k+1)/C=if (k+1)%C=0 then k/C+1 else k/C:=by
 rw[Nat.succ_div]
 by_cases h:(k+1)%C=0
 ·rw[if_pos h,if_pos (Nat.dvd_of_mod_eq_zero h)]
 ·rw[if_neg h,if_neg (fun hd=>h (Nat.mod_eq_zero_of_dvd hd)),Nat.add_zero]
theorem Ex.step {l:List UInt8} {k ro ga:Nat} {vs:List Int} {x:Int} (h:Ex l k vs ro ga) (hk:k<(Lib.split l [32]).length) (hx:RF (sw ((Lib.split l [32]).getD k [])) x true):Ex l (k+1) (vs++[x]) (if ed ((Lib.split l [32]).getD k [])=true then ro+1 else ro) (if ro=1 then k+1 else ga):=fun m hm hl=>by
 obtain⟨R,C,hr,hc,R1,C1,hlen,h25,hk2,_,hrv,hw⟩:=qQ hm hl hk;obtain⟨R',C',hr',hc',hvs,hro,hga⟩:=h m hm hl;obtain rfl:R'=R:=by omega
 obtain rfl:C'=C:=by omega
 obtain⟨hs,he⟩:=E8 m.v C' (R'*C') k;rw[hw,hs] at hx;obtain⟨hx1,hx2⟩:=hx.num;have hxe:x=m.v.getD k 0:=vT hx1 hrv hx2;refine⟨R',C',hr,hc,?_,?_,?_⟩
 ·rw[hvs,hxe,List.take_succ_eq_append_getElem (by omega),eX _ _ (by omega)]
 ·rw[hw,he,hro,Gj C1];have hd:k/C'<R':=by rw[Nat.div_lt_iff_lt_mul (by omega)];exact hk2
  by_cases hm0:(k+1)%C'=0
  ·rw[if_pos hm0];have hq:(k+1)/C'=k/C'+1:=by rw[Gj C1,if_pos hm0]
   have hmul:C'*((k+1)/C')=k+1:=Nat.mul_div_cancel' (Nat.dvd_of_mod_eq_zero hm0);rw[hq] at hmul
   by_cases hlast:k+1<R'*C'
   ·rw[decide_eq_true ⟨hm0,hlast⟩,if_pos rfl];have:k/C'+1<R':=by
     rcases Nat.lt_or_ge (k/C'+1) R' with h|h
     ·exact h
     ·exfalso
      have:=Nat.mul_le_mul_left C' h;rw[hmul,Nat.mul_comm] at this
      omega
    omega
   ·rw[decide_eq_false (fun h=>hlast h.2),if_neg (by decide)]
    have:R'<=k/C'+1:=by
     rcases Nat.lt_or_ge (k/C'+1) R' with h|h
     ·exfalso
      have:=Nat.mul_lt_mul_of_pos_left h (show 0<C' by omega)
      rw[hmul,Nat.mul_comm] at this
      omega
     ·exact h
    omega
  ·rw[if_neg hm0,decide_eq_false (fun h=>hm0 h.1),if_neg (by decide)]
 ·rw[hro,hga]
  by_cases hkC:k<C'
  ·have:k/C'=0:=Nat.div_eq_of_lt hkC;rw[if_pos (by omega)]
   omega
  ·have h1:1<=k/C':=(Nat.one_le_div_iff (by omega)).2 (by omega)
   have h2:2<=R':=by
    rcases Nat.lt_or_ge R' 2 with h|h
    ·exfalso
     have:R'=1:=by omega
     subst this
     omega
    ·exact h
   rw[if_neg (by omega)]
   omega
theorem Ex.E9 {l:List UInt8} {k ro ga:Nat} {vs:List Int} {x:Int} (h:Ex l k vs ro ga) (hk:k<(Lib.split l [32]).length) (hx:RF (sw ((Lib.split l [32]).getD k [])) x false):RMp l Mx.z false:=RMp.no fun m hm hl=>by
 obtain⟨R,C,hr,hc,R1,C1,hlen,h25,hk2,_,hrv,hw⟩:=qQ hm hl hk;rw[hw,(E8 m.v C (R*C) k).1] at hx;rcases hx with⟨hx,_⟩|⟨_,_,hx⟩
 ·cases hx
 ·exact hx _ hrv.1 hrv.2 rfl
theorem Ex.Bv {l:List UInt8} {k ro ga:Nat} {vs:List Int} (h:Ex l k vs ro ga) (hk:k<(Lib.split l [32]).length) (hn:25<=vs.length):RMp l Mx.z false:=RMp.no fun m hm hl=>by
 obtain⟨R,C,hr,hc,R1,C1,hlen,h25,hk2,_,hrv,hw⟩:=qQ hm hl hk;obtain⟨_,_,_,_,hvs,_,_⟩:=h m hm hl;rw[hvs,List.length_take] at hn
 omega
theorem Ex.full {l:List UInt8} {ro ga:Nat} {vs:List Int} (h:Ex l (Lib.split l [32]).length vs ro ga) {m:Mx} (hm:mvB m=true) (hl:mt m=l):m=⟨(ro:Int),(ga:Int),vs⟩:=by
 obtain⟨R,C,hr,hc,hvs,hro,hga⟩:=h m hm hl;obtain⟨R',C',hr',hc',R1,R5,C1,C5,hlen,h25,hall⟩:=er hm;obtain rfl:R'=R:=by omega
 obtain rfl:C'=C:=by omega
 have e:(Lib.split l [32]).length=R'*C':=by rw[<-hl,l_ hm hr hc,sE R1 C1 hlen];simp
 rw[e] at hvs hro hga;rw[List.take_of_length_le (by omega)] at hvs
 have h1:R'*C'/C'=R':=Nat.mul_div_cancel _ (by omega)
 rw[h1] at hro;have h2:C'<=R'*C':=Nat.le_mul_of_pos_left _ (by omega)
 have e1:ro=R':=by omega
 have e2:ga=C':=by omega
 obtain⟨a,b,c⟩:=m
 dsimp only at hr hc hvs
 rw[hr,hc,hvs,e1,e2]
theorem Ex.fail {l:List UInt8} {ro ga:Nat} {vs:List Int} (h:Ex l (Lib.split l [32]).length vs ro ga) (hb:mvB ⟨(ro:Int),(ga:Int),vs⟩=false\/mt ⟨(ro:Int),(ga:Int),vs⟩≠l):RMp l Mx.z false:=RMp.no fun m hm hl=>by
 have e:=h.full hm hl;rw[e] at hm hl;rcases hb with hb|hb
 ·rw[hb] at hm;cases hm
 ·exact hb hl
def E1 (t:List UInt8) (k:Nat) (n:Int):Prop:=k<=t.length/\k<=4/\(t.take k).all isD=true/\n=vl (t.take k)
def Stop (t:List UInt8) (k:Nat):Prop:=∀ h:k<t.length,k<4->isD t[k]=false
theorem E1.start (t:List UInt8):E1 t 0 0:=⟨Nat.zero_le _,by omega,rfl,rfl⟩
theorem E1.step {t:List UInt8} {k:Nat} {n:Int} (h:E1 t k n) (hk:k<t.length) (h4:k<4) (hd:isD t[k]=true):E1 t (k+1) (n*10+((t[k].toNat:Int)-48)):=by
 obtain⟨_,_,h1,h2⟩:=h;have:=uC hk h1 hd
 exact⟨hk,h4,this.1,by rw[this.2,h2]⟩
theorem E1.bd {t:List UInt8} {k:Nat} {n:Int} (h:E1 t k n):0<=n/\n<=99999999:=by
 obtain⟨h1,h2,h3,h4⟩:=h;rw[h4]
 exact jS h1 (by omega) h3
theorem qK {a b t:List UInt8} {k:Nat} {n:Int} (ht:t=a++b) (ha:a.all isD=true) (hl:a.length<=4) (hb:∀ c b',b=c::b'->isD c=false) (h:E1 t k n) (hs:Stop t k):k=a.length/\n=vl a:=by
 obtain⟨h1,h2,h3,h4⟩:=h;have hk:k=a.length:=by
  rcases Nat.lt_trichotomy k a.length with hlt|he|hgt
  ·exfalso
   have hlt2:k<t.length:=by rw[ht,List.length_append];omega
   have h5:=hs hlt2 (by omega)
   have e:t[k]=a[k]:=by subst ht;exact List.getElem_append_left hlt
   rw[e] at h5;rw[List.all_eq_true] at ha;rw[ha _ (List.getElem_mem hlt)] at h5
   cases h5
  ·exact he
  ·exfalso
   cases b with
   | nil=>rw[ht,List.append_nil] at h1;omega
   | cons c b' =>
    have hc:=hb c b' rfl;rw[List.all_eq_true] at h3;have hm:c∈t.take k:=by
     rw[ht,List.take_append];apply List.mem_append_right
     have e:k-a.length=(k-a.length-1)+1:=by omega
     rw[e,List.take_succ_cons]
     exact List.mem_cons_self ..
    rw[h3 _ hm] at hc
    cases hc
 refine⟨hk,?_⟩;rw[h4,ht,hk,List.take_left]
def E2 (D:List UInt8) (j:Nat) (p sc:Int):Prop:=∃ n,E1 D j n/\p=n*sc/\sc=10 ^ (4-j)
theorem E2.start (D:List UInt8):E2 D 0 0 10000:=⟨0,E1.start D,by omega,by decide⟩
theorem E2.sc {D:List UInt8} {j:Nat} {p sc:Int} (h:E2 D j p sc) (hj:j<4):∃ s2,sc/10=s2/\sc=10*s2/\s2=10 ^ (4-(j+1))/\1<=s2/\s2<=1000:=by
 obtain⟨n,_,_,h3⟩:=h;have:j=0\/j=1\/j=2\/j=3:=by omega
 rcases this with rfl|rfl|rfl|rfl <;> (simp at h3;subst h3) <;> exact⟨_,rfl,by decide,by decide,by decide,by decide⟩
theorem E2.step {D:List UInt8} {j:Nat} {p sc s2:Int} (h:E2 D j p sc) (hk:j<D.length) (h4:j<4) (hd:isD D[j]=true) (h1:sc=10*s2) (h2:s2=10 ^ (4-(j+1))):E2 D (j+1) (p+s2*((D[j].toNat:Int)-48)) s2:=by
 obtain⟨n,e,hp,_⟩:=h;refine⟨_,e.step hk h4 hd,?_,h2⟩;rw[hp,h1,Int.add_mul,Int.mul_assoc n 10 s2,Int.mul_comm s2 (_-_)]
theorem E2.bd {D:List UInt8} {j:Nat} {p sc:Int} (h:E2 D j p sc):0<=p/\p<=999999990000/\1<=sc/\sc<=10000:=by
 obtain⟨n,e,hp,h3⟩:=h;have hb:=e.bd;have hj:j<=4:=e.2.1;have:j=0\/j=1\/j=2\/j=3\/j=4:=by omega
 rcases this with rfl|rfl|rfl|rfl|rfl <;> (simp at h3;subst h3) <;> omega
def E3 (t:List UInt8) (y:Int):Prop:=∃ k n,E1 t k n/\Stop t k/\((t[k]?≠some 46/\y=n*16)\/(t[k]?=some 46/\∃ j p sc,E2 (t.drop (k+1)) j p sc/\Stop (t.drop (k+1)) j/\y=n*16+p/625))
theorem Cy:∀ r:Fin 16,(fd r.val).all isD=true/\vl (fd r.val)*10 ^ (4-(fd r.val).length)=(r.val:Int)*625:=by decide
theorem E3.fin {m y:Int} (h0:0<=m) (h1:m<=4096) (h:E3 (fxn m) y):y=m:=by
 obtain⟨k,n,he,hs,hy⟩:=h;have hl:=q_ (m:=m/16) (by omega)
 by_cases hz:m%16=0
 ·have ht:fxn m=dec (m/16)++[]:=by unfold fxn;rw[if_pos hz]
  obtain⟨hk,hn⟩:=qK ht (vR _) (by omega) (fun c b' e=>by cases e) he hs
  rw[tG (by omega)] at hn
  have hnone:(fxn m)[k]?=none:=by rw[ht,List.append_nil,hk];exact List.getElem?_eq_none Ql
  rcases hy with⟨_,hy⟩|⟨hy,_⟩
  ·omega
  ·rw[hnone] at hy;cases hy
 ·have ht:fxn m=dec (m/16)++46::fd (m%16).toNat:=by unfold fxn;rw[if_neg hz]
  obtain⟨hk,hn⟩:=qK ht (vR _) (by omega) (fun c b' e=>by injection e with e _;rw[<-e];rfl) he hs
  rw[tG (by omega)] at hn
  have hsome:(fxn m)[k]?=some 46:=by rw[ht,hk];simp
  rcases hy with⟨hy,_⟩|⟨_,j,p,sc,⟨n2,e1,hp,hsc⟩,hs2,hy⟩
  ·exact absurd hsome hy
  ·have hD:(fxn m).drop (k+1)=fd (m%16).toNat++[]:=by rw[ht,hk,List.append_nil];simp
   have hfd:=Cy ⟨(m%16).toNat,by omega⟩
   have hfl:=pV ⟨(m%16).toNat,by omega⟩
   dsimp only at hfd hfl
   obtain⟨hj,hn2⟩:=qK hD hfd.1 hfl (fun c b' e=>by cases e) e1 hs2
   rw[hp,hn2,hsc,hj,hfd.2] at hy
   omega
theorem xN {x:Int} {t:List UInt8} (h:fx x=45::t):sgn x<0/\t=fxn (-(sgn x)):=by
 unfold fx fxs at h
 split at h
 ·rename_i hn
  injection h with _ h
  exact⟨hn,h.symm⟩
 ·obtain⟨d,r,e,hd⟩:=nr (sgn x);rw[e] at h;injection h with h _;rw[h] at hd
  exact absurd hd (by decide)
theorem xO {x:Int} {b:UInt8} {t:List UInt8} (h:fx x=b::t) (hb:b≠45):¬sgn x<0/\b::t=fxn (sgn x):=by
 unfold fx fxs at h
 split at h
 ·injection h with h _
  exact absurd h.symm hb
 ·rename_i hn
  exact⟨hn,h.symm⟩
theorem RF.noS {l:List UInt8} {v:Int} (hv:∀ x,0<=x->x<=4095->fx x=l->v=x) (hne:fx v≠l):RF l 0 false:= .inr ⟨rfl,rfl,fun x h0 h1 e=>hne (by rw[hv x h0 h1 e];exact e)⟩
theorem E3.neg {l t:List UInt8} {y:Int} (hl:l=45::t) (h:E3 t y):∀ x,0<=x->x<=4095->fx x=l->(-y)%4096=x:=fun x h0 h1 e=>by
 obtain⟨hn,ht⟩:=xN (e.trans hl);have hb:=jf x;rw[ht] at h;have:=h.fin (by omega) (by omega)
 have h3:=qI h0 h1
 omega
theorem E3.pos {l t:List UInt8} {b:UInt8} {y:Int} (hl:l=b::t) (hb:b≠45) (h:E3 l y):∀ x,0<=x->x<=4095->fx x=l->y%4096=x:=fun x h0 h1 e=>by
 obtain⟨hn,ht⟩:=xO (e.trans hl) hb;have hbd:=jf x;rw[hl,ht] at h;have:=h.fin (by omega) (by omega)
 have h3:=qI h0 h1
 omega
end Go.Proofs.YtjciicheoghcdaaGreatDoor
