/-
  Layer 49, plain law: the right Done inputs, as the reference and the gateway see them.
  Layer 49, plain law: what is due, and the list of the debts, as the reference finds them.
  Layer 49, plain law: what the audit makes of the outs: its items.
  The keys of a map of debts, as they come: maps.Keys.
-/
import Derived.Test.YtiklglcjecopcaaGreatDoorQ20
import Derived.Test.YtiklglcjecopcaaGreatDoorQ19
import Derived.Test.YtiklglcjecopcaaGreatDoorKE
import Derived.Shelf.SlIterI.Nil
namespace Go.Proofs.YtiklglcjecopcaaGreatDoor
open Go.RowKit
theorem eF {c:Bool} {K:Option Bool} {P Q:Prop} (hc:c=false↔P) (h:P→∃b,K=some b∧(b=true↔Q)):∃b,(bif c then some false else K)=some b∧(b=true↔P∧Q):=by
 cases hcc:c
 ·obtain ⟨b,h1,h2⟩:=h (hc.1 hcc)
  exact ⟨b,h1,by rw [h2];exact ⟨fun h=> ⟨hc.1 hcc,h⟩,fun h=> h.2⟩⟩
 ·exact ⟨false,rfl,by constructor;(·intro h;cases h);(·rintro ⟨h,_⟩;rw [hc.2 h] at hcc;cases hcc)⟩
theorem eT {c:Bool} {K:Option Bool} {P Q:Prop} (hc:c=true↔P) (h:P→∃b,K=some b∧(b=true↔Q)):∃b,(bif c then K else some false)=some b∧(b=true↔P∧Q):=by
 cases hcc:c
 ·exact ⟨false,rfl,by constructor;(·intro h;cases h);(·rintro ⟨h,_⟩;rw [hc.2 h] at hcc;cases hcc)⟩
 ·obtain ⟨b,h1,h2⟩:=h (hc.1 hcc)
  exact ⟨b,h1,by rw [h2];exact ⟨fun h=> ⟨hc.1 hcc,h⟩,fun h=> h.2⟩⟩
def blank (x:api_Input):api_Input:=
 api_Input.mk x.Kind x.Net x.Event (0:Int) (0:Int) (api_Raw.mk (0:Int) (0:Int) (0:Int) (0:Int) (0:Int) (0:Int) (0:Int) (0:Int) (ByteArray.mk #[]) ([]:List Int)) (api_Note.mk (0:Int) (0:Int) (0:Int) (0:Int) false) (api_Proof.mk (0:Int) (0:Int) (0:Int)) (api_Verdict.mk (0:Int) (0:Int) false) (api_Hold.mk (0:Int) (0:Int) (0:Int) (0:Int)) (api_Order.mk (0:Int) (0:Int) (0:Int) (0:Int)) ([]:List Bool)
def RawP (r:api_Raw):Prop:=r.Account=0∧r.Seq=0∧r.Kind=0∧r.Group=0∧r.On=0∧r.Quote=0∧r.Who=0∧r.N=0∧r.Text.toList= []∧r.Files= []
def NoteP (n:api_Note):Prop:=n.Message=0∧n.Who=0∧n.Level=0∧n.Step=0∧n.Not=false
def ProofP (p:api_Proof):Prop:=p.Kind=0∧p.A=0∧p.B=0
def VerdictP (v:api_Verdict):Prop:=v.Name=0∧v.Step=0∧v.Bad=false
def HoldP (x:api_Hold):Prop:=x.Id=0∧x.Event=0∧x.From=0∧x.To=0
def OrderP (o:api_Order):Prop:=o.Kind=0∧o.Event=0∧o.By=0∧o.Step=0
def BareP (x:api_Input):Prop:=x.Local=0∧x.N=0∧RawP x.Raw∧NoteP x.Note∧ProofP x.Proof∧VerdictP x.Verdict∧HoldP x.Hold∧OrderP x.Order∧x.Up= []
def DoneP (x:api_Input):Prop:=(0≤x.Net∧x.Net≤11)∧(0≤x.Event∧x.Event≤99999)∧BareP x
theorem empty_ba:(ByteArray.mk #[]).toList= []:=ByteArray.toList_empty
theorem ints_nil (l:List Int):∃b,ref48_ints l []=some b∧(b=true↔l= []):=by
 cases l with
 | nil=>
  refine ⟨true,?_,by simp⟩
  unfold ref48_ints
  rw [loopF_eq]
  rfl
 | cons x t=>
  refine ⟨false,?_,by simp⟩
  unfold ref48_ints
  have:(((x::t).length:Int) !=(([]:List Int).length:Int))=true:=by simp <;> omega
  rw [this]
  rfl
theorem eqInts_nil (l:List Int):∃b,slices_Equal_int_int [] l=some b∧(b=true↔l= []):=by
 cases l with
 | nil=>
  refine ⟨true,?_,by simp⟩
  unfold slices_Equal_int_int
  rw [loopF_eq]
  rfl
 | cons x t=>
  refine ⟨false,?_,by simp⟩
  unfold slices_Equal_int_int
  have:((([]:List Int).length:Int) !=((x::t).length:Int))=true:=by simp <;> omega
  rw [this]
  rfl
theorem eqBools_nil (l:List Bool):∃b,slices_Equal_bool_bool [] l=some b∧(b=true↔l= []):=by
 cases l with
 | nil=>
  refine ⟨true,?_,by simp⟩
  unfold slices_Equal_bool_bool
  rw [loopF_eq]
  rfl
 | cons x t=>
  refine ⟨false,?_,by simp⟩
  unfold slices_Equal_bool_bool
  have:((([]:List Bool).length:Int) !=((x::t).length:Int))=true:=by simp <;> omega
  rw [this]
  rfl
theorem lenB_nil (l:List Bool):((l.length:Int) !=(([]:List Bool).length:Int))=false↔l= []:=by
 cases l <;> simp <;> omega
theorem note_iff (n:api_Note):((n.Message==0) && ((n.Who==0) && ((n.Level==0) && ((n.Step==0) && ((n.Not==false) && true)))))=true↔NoteP n:=by
 unfold NoteP;simp
theorem proof_iff (n:api_Proof):((n.Kind==0) && ((n.A==0) && ((n.B==0) && true)))=true↔ProofP n:=by
 unfold ProofP;simp
theorem verdict_iff (n:api_Verdict):((n.Name==0) && ((n.Step==0) && ((n.Bad==false) && true)))=true↔VerdictP n:=by
 unfold VerdictP;simp
theorem hold_iff (n:api_Hold):((n.Id==0) && ((n.Event==0) && ((n.From==0) && ((n.To==0) && true))))=true↔HoldP n:=by
 unfold HoldP;simp
theorem order_iff (n:api_Order):((n.Kind==0) && ((n.Event==0) && ((n.By==0) && ((n.Step==0) && true))))=true↔OrderP n:=by
 unfold OrderP;simp
theorem note_iff' (n:api_Note):(((0:Int)==n.Message) && (((0:Int)==n.Who) && (((0:Int)==n.Level) && (((0:Int)==n.Step) && ((false==n.Not) && true)))))=true↔NoteP n:=by
 unfold NoteP;simp [@eq_comm Int 0]
theorem proof_iff' (n:api_Proof):(((0:Int)==n.Kind) && (((0:Int)==n.A) && (((0:Int)==n.B) && true)))=true↔ProofP n:=by
 unfold ProofP;simp [@eq_comm Int 0]
theorem verdict_iff' (n:api_Verdict):(((0:Int)==n.Name) && (((0:Int)==n.Step) && ((false==n.Bad) && true)))=true↔VerdictP n:=by
 unfold VerdictP;simp [@eq_comm Int 0]
theorem hold_iff' (n:api_Hold):(((0:Int)==n.Id) && (((0:Int)==n.Event) && (((0:Int)==n.From) && (((0:Int)==n.To) && true))))=true↔HoldP n:=by
 unfold HoldP;simp [@eq_comm Int 0]
theorem order_iff' (n:api_Order):(((0:Int)==n.Kind) && (((0:Int)==n.Event) && (((0:Int)==n.By) && (((0:Int)==n.Step) && true))))=true↔OrderP n:=by
 unfold OrderP;simp [@eq_comm Int 0]
theorem bind_ex {K:Option Bool} {P Q:Prop} {f:Bool→Option Bool} (h:∃b,K=some b∧(b=true↔P)) (hf:∀b,(b=true↔P)→∃c,f b=some c∧(c=true↔Q)):∃c,K.bind f=some c∧(c=true↔Q):=by
 obtain ⟨b,h1,h2⟩:=h
 rw [h1]
 exact hf b h2
theorem re_ex {K:Option Bool} {P Q:Prop} (h:∃b,K=some b∧(b=true↔P)) (hq:P↔Q):∃b,K=some b∧(b=true↔Q):=by
 obtain ⟨b,h1,h2⟩:=h
 exact ⟨b,h1,h2.trans hq⟩
theorem same_blank (x:api_Input):∃b,ref48_Same x (blank x)=some b∧(b=true↔BareP x):=by
 refine re_ex (P:=x.Raw.Account=0∧x.Raw.Seq=0∧x.Raw.Kind=0∧x.Raw.Group=0∧x.Raw.On=0∧x.Raw.Quote=0∧x.Raw.Who=0∧x.Raw.N=0∧x.Raw.Text.toList= []∧x.Raw.Files= []∧x.Up= []∧True∧True∧True∧x.Local=0∧x.N=0∧NoteP x.Note∧ProofP x.Proof∧VerdictP x.Verdict∧HoldP x.Hold∧OrderP x.Order) ?_ (by unfold BareP RawP;constructor <;> intro h <;> simp [h])
 unfold ref48_Same
 dsimp only [blank]
 rw [empty_ba]
 refine eF (by simp) fun _=> eF (by simp) fun _=> eF (by simp) fun _=> eF (by simp) fun _=> eF (by simp) fun _=> eF (by simp) fun _=> eF (by simp) fun _=> eF (by simp) fun _=> eF (by simp) fun _=> ?_
 refine bind_ex (ints_nil _) fun y hy=> ?_
 refine eF (by rw [←hy];simp) fun _=> eF (lenB_nil _) fun hup=> eF (by simp) fun _=> eF (by simp) fun _=> eF (by simp) fun _=> eF (by simp) fun _=> eF (by simp) fun _=> ?_
 have hl:loopF (ref48_Same_L1 x (blank x)) (0:Int)=some (.inl ()):=by
  rw [loopF_eq]
  unfold ref48_Same_L1
  rw [hup]
  rfl
 change ∃b,(seqF (A:=Unit) (loopF (ref48_Same_L1 x (blank x)) (0:Int)) _)=some b∧_
 rw [hl]
 exact eT (note_iff _) fun _=> eT (proof_iff _) fun _=> eT (verdict_iff _) fun _=> eT (hold_iff _) fun _=> ⟨_,rfl,order_iff _⟩
theorem ref48_Right_eq (x:api_Input) (h8:x.Kind=8):∃b,ref48_Right x=some b∧(b=true↔DoneP x):=by
 have hin:∀n a c:Int,ref48_in n a c=some (decide (a≤n) && decide (n≤c)):=by
  intro n a c
  unfold ref48_in
  cases decide (a≤n) <;> rfl
 have ho:ref48_own x=some (blank x,(decide (0≤x.Net) && decide (x.Net≤11)) && (decide (0≤x.Event) && decide (x.Event≤99999))):=by
  unfold ref48_own
  rw [hin,hin,Option.bind_some,Option.bind_some]
  simp only [h8]
  have e0:((8:Int)==0)=false:=rfl
  have e1:((8:Int)==1)=false:=rfl
  have e2:((8:Int)==2)=false:=rfl
  have e3:((8:Int)==3)=false:=rfl
  have e4:((8:Int)==4)=false:=rfl
  have e5:((8:Int)==5)=false:=rfl
  have e6:((8:Int)==6)=false:=rfl
  have e7:((8:Int)==7)=false:=rfl
  have e8:((8:Int)==8)=true:=rfl
  rw [e0,e1,e2,e3,e4,e5,e6,e7,e8]
  simp only [cond_false,cond_true]
  have hb:blank x={blank x with Kind:=8}:=by unfold blank;simp [h8]
  rw [hb]
  cases (decide (0≤x.Net) && decide (x.Net≤11)) <;> rfl
 unfold ref48_Right
 change ∃b,((ref48_own x).bind fun y1=> bif y1.2 then (ref48_Same x y1.1).bind fun y2=> some y2 else some false)=some b∧_
 rw [ho,Option.bind_some]
 dsimp only
 refine re_ex (P:=((0≤x.Net∧x.Net≤11)∧(0≤x.Event∧x.Event≤99999))∧BareP x) ?_ (by unfold DoneP;constructor <;> intro h <;> simp [h])
 refine eT (by simp) fun _=> ?_
 obtain ⟨b,h1,h2⟩:=same_blank x
 rw [h1]
 exact ⟨b,rfl,h2⟩
theorem bind_inl {K:Option Bool} {P:Prop} (h:∃b,K=some b∧(b=true↔P)):∃b,(K.bind fun y=> (some (.inl y):Option (Bool⊕Bool)))=some (.inl b)∧(b=true↔P):=by
 obtain ⟨b,h1,h2⟩:=h
 rw [h1]
 exact ⟨b,rfl,h2⟩
theorem eTl {c:Bool} {K:Option (Bool⊕Bool)} {P Q:Prop} (hc:c=true↔P) (h:P→∃b,K=some (.inl b)∧(b=true↔Q)):∃b,(bif c then K else some (.inl false))=some (.inl b)∧(b=true↔P∧Q):=by
 cases hcc:c
 ·exact ⟨false,rfl,by constructor;(·intro h;cases h);(·rintro ⟨h,_⟩;rw [hc.2 h] at hcc;cases hcc)⟩
 ·obtain ⟨b,h1,h2⟩:=h (hc.1 hcc)
  exact ⟨b,h1,by rw [h2];exact ⟨fun h=> ⟨hc.1 hcc,h⟩,fun h=> h.2⟩⟩
theorem seq_ex {p:Option (Bool⊕Bool)} {P Q:Prop} {f:Bool→Option Bool} (h:∃b,p=some (.inl b)∧(b=true↔P)) (hf:P→∃c,f true=some c∧(c=true↔Q)) (h0:f false=some false):∃c,seqF (A:=Bool) p f=some c∧(c=true↔P∧Q):=by
 obtain ⟨b,h1,h2⟩:=h
 rw [h1]
 cases b
 ·refine ⟨false,h0,by constructor;(·intro h;cases h);(·rintro ⟨h,_⟩;exact absurd (h2.2 h) (by simp))⟩
 ·obtain ⟨c,k1,k2⟩:=hf (h2.1 rfl)
  exact ⟨c,k1,by rw [k2];exact ⟨fun h=> ⟨h2.1 rfl,h⟩,fun h=> h.2⟩⟩
theorem raw_blank (x:api_Input):∃b,gate_sameRaw (blank x).Raw x.Raw=some b∧(b=true↔RawP x.Raw):=by
 refine re_ex (P:=(x.Raw.Account=0∧x.Raw.Seq=0∧x.Raw.Kind=0∧x.Raw.Group=0∧x.Raw.On=0∧x.Raw.Quote=0)∧x.Raw.Who=0∧x.Raw.N=0∧x.Raw.Text.toList= []∧x.Raw.Files= []) ?_ (by unfold RawP;constructor <;> intro h <;> simp [h])
 unfold gate_sameRaw
 dsimp only [blank]
 rw [empty_ba]
 refine seq_ex ?_ (fun _=> ?_) rfl
 ·refine eTl (by simp [@eq_comm Int 0]) fun _=> eTl (by simp [@eq_comm Int 0]) fun _=> eTl (by simp [@eq_comm Int 0]) fun _=> eTl (by simp [@eq_comm Int 0]) fun _=> eTl (by simp [@eq_comm Int 0]) fun _=> ⟨_,rfl,by simp [@eq_comm Int 0]⟩
 ·rw [cond_true]
  refine eT (by simp [@eq_comm Int 0]) fun _=> eT (by simp [@eq_comm Int 0]) fun _=> eT (by simp) fun _=> ?_
  obtain ⟨b,h1,h2⟩:=eqInts_nil x.Raw.Files
  rw [h1]
  exact ⟨b,rfl,h2⟩
theorem gsame_blank (x:api_Input):∃b,gate_same (blank x) x=some b∧(b=true↔BareP x):=by
 refine re_ex (P:=(True∧True∧True∧x.Local=0∧x.N=0∧RawP x.Raw)∧NoteP x.Note∧ProofP x.Proof∧VerdictP x.Verdict∧HoldP x.Hold∧OrderP x.Order∧x.Up= []) ?_ (by unfold BareP;constructor <;> intro h <;> simp [h])
 unfold gate_same
 dsimp only [blank]
 refine seq_ex ?_ (fun _=> ?_) rfl
 ·refine eTl (by simp) fun _=> eTl (by simp) fun _=> eTl (by simp) fun _=> eTl (by simp [@eq_comm Int 0]) fun _=> eTl (by simp [@eq_comm Int 0]) fun _=> bind_inl (raw_blank x)
 ·rw [cond_true]
  refine eT (note_iff' _) fun _=> eT (proof_iff' _) fun _=> eT (verdict_iff' _) fun _=> eT (hold_iff' _) fun _=> eT (order_iff' _) fun _=> ?_
  obtain ⟨b,h1,h2⟩:=eqBools_nil x.Up
  rw [h1]
  exact ⟨b,rfl,h2⟩
theorem gate_Right_eq (x:api_Input) (h8:x.Kind=8):∃b,gate_Right x=some b∧(b=true↔DoneP x):=by
 have hin:∀n a c:Int,gate_within n a c=some (decide (a≤n) && decide (n≤c)):=by
  intro n a c
  unfold gate_within
  cases decide (a≤n) <;> rfl
 have ho:gate_fields x=some (blank x,(decide (0≤x.Net) && decide (x.Net≤11)) && (decide (0≤x.Event) && decide (x.Event≤99999))):=by
  unfold gate_fields gate_isNet gate_isEvent
  rw [hin,hin]
  simp only [h8,Option.bind_some]
  have e0:((8:Int)==0)=false:=rfl
  have e1:((8:Int)==1)=false:=rfl
  have e2:((8:Int)==2)=false:=rfl
  have e3:((8:Int)==3)=false:=rfl
  have e4:((8:Int)==4)=false:=rfl
  have e5:((8:Int)==5)=false:=rfl
  have e6:((8:Int)==6)=false:=rfl
  have e7:((8:Int)==7)=false:=rfl
  have e8:((8:Int)==8)=true:=rfl
  rw [e0,e1,e2,e3,e4,e5,e6,e7,e8]
  simp only [cond_false,cond_true]
  have hb:blank x={blank x with Kind:=8}:=by unfold blank;simp [h8]
  rw [hb]
  cases (decide (0≤x.Net) && decide (x.Net≤11)) <;> rfl
 unfold gate_Right
 change ∃b,((gate_fields x).bind fun y1=> bif y1.2 then (gate_same y1.1 x).bind fun y2=> some y2 else some false)=some b∧_
 rw [ho,Option.bind_some]
 dsimp only
 refine re_ex (P:=((0≤x.Net∧x.Net≤11)∧(0≤x.Event∧x.Event≤99999))∧BareP x) ?_ (by unfold DoneP;constructor <;> intro h <;> simp [h])
 refine eT (by simp) fun _=> ?_
 obtain ⟨b,h1,h2⟩:=gsame_blank x
 rw [h1]
 exact ⟨b,rfl,h2⟩
instance:Inhabited api_Input:=⟨⟨0,0,0,0,0,⟨0,0,0,0,0,0,0,0,.empty,[]⟩,⟨0,0,0,0,false⟩,⟨0,0,0⟩,⟨0,0,false⟩,⟨0,0,0,0⟩,⟨0,0,0,0⟩,[]⟩⟩
instance:Inhabited api_Debt:=⟨⟨0,0⟩⟩
def isE (ev net:Int) (x:api_Out):Bool:=x.Kind==(2:Int) && (x.Event==ev && x.Net==net)
def hasE (outs:List (List api_Out)) (ev net:Int) (i:Nat):Bool:=(outs.getD i []).any (isE ev net)
def isD (ev net:Int) (x:api_Input):Prop:=x.Kind=8∧x.Event=ev∧x.Net=net∧DoneP x
def DueP (inputs:List api_Input) (outs:List (List api_Out)) (ev net:Int):Prop:=
 ∃i,i < outs.length∧hasE outs ev net i=true∧∀j,i < j→j < inputs.length→¬isD ev net (inputs.getD j default)
theorem due_L1_eq (outs:List (List api_Out)) (ev net:Int) (a:Int) (i:Nat) (hi:i < outs.length) (hl:(outs.getD i []).length≤1000000):
  loopF (ref49_due_L1 outs (a,(i:Int)) ev net) (a,(0:Int))=some (.inl (bif hasE outs ev net i then (i:Int) else a)):=by
 unfold hasE
 refine loopF_inv (body:=ref49_due_L1 outs (a,(i:Int)) ev net) (outs.getD i []).length (fun t s=> s=((bif ((outs.getD i []).take t).any (isE ev net) then (i:Int) else a),(t:Int))) (fun r=> r=some (.inl (bif (outs.getD i []).any (isE ev net) then (i:Int) else a))) ?_ ?_ (by simp)
 ·rintro t s ht rfl
  left
  refine ⟨_,?_,rfl⟩
  unfold ref49_due_L1
  dsimp only
  have hw:IntKind.i64.wrap ((t:Int) + 1)=((t + 1:Nat):Int):=by
   rw [wrap64 (by omega) (by omega)]
   rfl
  rw [bind_some_of (getI_in [] hi),decide_eq_true (by omega),cond_true,bind_some_of (getI_in default ht),take_succ_getD _ default ht,List.any_append,hw]
  simp only [List.any_cons,List.any_nil,Bool.or_false]
  unfold isE
  cases ((outs.getD i []).take t).any _ <;> cases (((outs.getD i []).getD t default).Kind==2) <;> cases (((outs.getD i []).getD t default).Event==ev) <;> cases (((outs.getD i []).getD t default).Net==net) <;> rfl
 ·rintro s rfl
  refine ⟨_,?_,rfl⟩
  unfold ref49_due_L1
  dsimp only
  rw [bind_some_of (getI_in [] hi),decide_eq_false (by omega),cond_false]
  simp
def LastE (outs:List (List api_Out)) (ev net:Int) (n:Nat) (a:Int):Prop:=
 (a= -1∧∀j,j < n→hasE outs ev net j=false)∨∃i:Nat,i < n∧a=(i:Int)∧hasE outs ev net i=true∧∀j,i < j→j < n→hasE outs ev net j=false
theorem due_L2_eq (outs:List (List api_Out)) (ev net:Int) (hn:outs.length≤1000000) (hl:∀l∈outs,l.length≤1000000):
  ∃a,loopF (ref49_due_L2 outs ev net) ((-1:Int),(0:Int))=some (.inl a)∧LastE outs ev net outs.length a:=by
 refine loopF_inv (body:=ref49_due_L2 outs ev net) outs.length (fun t s=> s.2=(t:Int)∧LastE outs ev net t s.1) (fun r=> ∃a,r=some (.inl a)∧LastE outs ev net outs.length a) ?_ ?_ ⟨rfl,Or.inl ⟨rfl,fun j hj=> by omega⟩⟩
 ·rintro t ⟨a,s⟩ ht ⟨h1,h2⟩
  dsimp only at h1 h2
  subst h1
  left
  have hlen:(outs.getD t []).length≤1000000:=by
   rw [List.getD_eq_getElem?_getD,List.getElem?_eq_getElem ht]
   exact hl _ (List.getElem_mem ht)
  have hw:IntKind.i64.wrap ((t:Int) + 1)=((t + 1:Nat):Int):=by
   rw [wrap64 (by omega) (by omega)]
   rfl
  refine ⟨((bif hasE outs ev net t then (t:Int) else a),((t + 1:Nat):Int)),?_,rfl,?_⟩
  ·unfold ref49_due_L2
   dsimp only
   rw [decide_eq_true (by omega),cond_true,due_L1_eq outs ev net a t ht hlen,hw]
   rfl
  ·dsimp only
   cases hh:hasE outs ev net t
   ·rw [cond_false]
    rcases h2 with ⟨h3,h4⟩ | ⟨i,h3,h4,h5,h6⟩
    ·refine Or.inl ⟨h3,fun j hj=> ?_⟩
     by_cases hjt:j=t
     ·rw [hjt];exact hh
     ·exact h4 j (by omega)
    ·refine Or.inr ⟨i,by omega,h4,h5,fun j hj hj'=> ?_⟩
     by_cases hjt:j=t
     ·rw [hjt];exact hh
     ·exact h6 j hj (by omega)
   ·exact Or.inr ⟨t,by omega,rfl,hh,fun j hj hj'=> by omega⟩
 ·rintro ⟨a,s⟩ ⟨h1,h2⟩
  dsimp only at h1 h2
  subst h1
  refine ⟨.inl a,?_,a,rfl,h2⟩
  unfold ref49_due_L2
  dsimp only
  rw [decide_eq_false (by omega)]
  rfl
theorem due_L3_eq (inputs:List api_Input) (ev net:Int) (hn:inputs.length≤1000000) (i:Nat) (hi:i < inputs.length):
  ((∃j,i < j∧j < inputs.length∧isD ev net (inputs.getD j default))→loopF (ref49_due_L3 inputs ev net) ((i + 1:Nat):Int)=some (.inr false))∧
  ((∀j,i < j→j < inputs.length→¬isD ev net (inputs.getD j default))→loopF (ref49_due_L3 inputs ev net) ((i + 1:Nat):Int)=some (.inl ())):=by
 refine loopF_inv (body:=ref49_due_L3 inputs ev net) (inputs.length - (i + 1)) (fun t s=> s=((i + 1 + t:Nat):Int)∧∀j,i < j→j < i + 1 + t→¬isD ev net (inputs.getD j default))
  (fun r=> ((∃j,i < j∧j < inputs.length∧isD ev net (inputs.getD j default))→r=some (.inr false))∧((∀j,i < j→j < inputs.length→¬isD ev net (inputs.getD j default))→r=some (.inl ()))) ?_ ?_ ⟨rfl,fun k h1 h2=> by omega⟩
 ·rintro t s ht ⟨rfl,hno⟩
  have hk:i + 1 + t < inputs.length:=by omega
  generalize hkk:i + 1 + t=k at *
  have hw:IntKind.i64.wrap ((k:Int) + 1)=((i + 1 + (t + 1):Nat):Int):=by
   rw [wrap64 (by omega) (by omega)]
   omega
  have next:¬isD ev net (inputs.getD k default)→∀j,i < j→j < i + 1 + (t + 1)→¬isD ev net (inputs.getD j default):=by
   intro h j h1 h2
   by_cases hjk:j=k
   ·rw [hjk];exact h
   ·exact hno j h1 (by omega)
  have body:∃b:Bool,ref49_due_L3 inputs ev net (k:Int)=some (bif b then .inr (.inr false) else .inl ((i + 1 + (t + 1):Nat):Int))∧(b=true↔isD ev net (inputs.getD k default)):=by
   unfold ref49_due_L3
   rw [decide_eq_true (by omega),cond_true,bind_some_of (getI_in default hk),hw]
   unfold isD
   cases h1:((inputs.getD k default).Kind==8)
   ·exact ⟨false,rfl,by simp at h1;simp [h1]⟩
   ·cases h2:((inputs.getD k default).Event==ev)
    ·exact ⟨false,rfl,by simp at h2;simp [h2]⟩
    ·cases h3:((inputs.getD k default).Net==net)
     ·exact ⟨false,rfl,by simp at h3;simp [h3]⟩
     ·simp only [beq_iff_eq] at h1 h2 h3
      obtain ⟨b,k1,k2⟩:=ref48_Right_eq (inputs.getD k default) h1
      refine ⟨b,?_,k2.trans ⟨fun h=> ⟨h1,h2,h3,h⟩,fun h=> h.2.2.2⟩⟩
      simp only [cond_true]
      change ((ref48_Right (inputs.getD k default)).bind _)=_
      rw [k1]
      cases b <;> rfl
  obtain ⟨b,hb,hbi⟩:=body
  rw [hb]
  cases b
  ·left
   exact ⟨_,rfl,rfl,next (fun h=> by simpa using hbi.2 h)⟩
  ·right
   exact ⟨_,rfl,fun _=> rfl,fun h=> absurd (hbi.1 rfl) (h k (by omega) hk)⟩
 ·rintro s ⟨rfl,hno⟩
  refine ⟨.inl (),?_,?_,fun _=> rfl⟩
  ·unfold ref49_due_L3
   rw [decide_eq_false (by omega)]
   rfl
  ·rintro ⟨j,h1,h2,h3⟩
   exact absurd h3 (hno j h1 (by omega))
theorem due_eq (inputs:List api_Input) (outs:List (List api_Out)) (ev net:Int) (hio:inputs.length=outs.length) (hn:outs.length≤1000000) (hl:∀l∈outs,l.length≤1000000):
  ∃b,ref49_due inputs outs ev net=some b∧(b=true↔DueP inputs outs ev net):=by
 unfold ref49_due
 obtain ⟨a,h1,h2⟩:=due_L2_eq outs ev net hn hl
 rw [h1]
 change ∃b,(bif (decide (a < (0:Int))) then some false else _)=some b∧_
 rcases h2 with ⟨rfl,h4⟩ | ⟨i,h3,rfl,h5,h6⟩
 ·refine ⟨false,rfl,?_⟩
  constructor
  ·intro h;cases h
  ·rintro ⟨i,hi,he,_⟩
   rw [h4 i hi] at he
   cases he
 ·have hw:IntKind.i64.wrap ((i:Int) + 1)=((i + 1:Nat):Int):=by
   rw [wrap64 (by omega) (by omega)]
   rfl
  rw [decide_eq_false (by omega),cond_false,hw]
  obtain ⟨k1,k2⟩:=due_L3_eq inputs ev net (by omega) i (by omega)
  by_cases hd:∃j,i < j∧j < inputs.length∧isD ev net (inputs.getD j default)
  ·rw [k1 hd]
   refine ⟨false,rfl,?_⟩
   constructor
   ·intro h;cases h
   ·rintro ⟨m,hm,he,hno⟩
    obtain ⟨j,hj1,hj2,hj3⟩:=hd
    have:m≤i:=by
     by_cases hmi:i < m
     ·rw [h6 m hmi hm] at he;cases he
     ·omega
    exact absurd hj3 (hno j (by omega) hj2)
  ·have hd':∀j,i < j→j < inputs.length→¬isD ev net (inputs.getD j default):=fun j h1 h2 h3=> hd ⟨j,h1,h2,h3⟩
   rw [k2 hd']
   exact ⟨true,rfl,by constructor;(·intro _;exact ⟨i,h3,h5,hd'⟩);(·intro _;rfl)⟩
def ltD (x y:api_Debt):Prop:=x.Event < y.Event∨(x.Event=y.Event∧x.Net < y.Net)
def AscD (debts:List api_Debt):Prop:=∀k,k + 1 < debts.length→ltD (debts.getD k default) (debts.getD (k + 1) default)
def DebtsP (inputs:List api_Input) (outs:List (List api_Out)) (debts:List api_Debt):Prop:=
 (∀d∈debts,DueP inputs outs d.Event d.Net)∧AscD debts∧∀ev net,DueP inputs outs ev net→∃d∈debts,d.Event=ev∧d.Net=net
theorem Debts_L2_eq (debts:List api_Debt) (hn:debts.length≤1000000) (x:api_Out):
  loopF (ref49_Debts_L2 debts x) (false,(0:Int))=some (.inl (debts.any fun d=> d.Event==x.Event && d.Net==x.Net)):=by
 refine loopF_inv (body:=ref49_Debts_L2 debts x) debts.length (fun t s=> s=((debts.take t).any (fun d=> d.Event==x.Event && d.Net==x.Net),(t:Int))) (fun r=> r=some (.inl (debts.any fun d=> d.Event==x.Event && d.Net==x.Net))) ?_ ?_ (by simp)
 ·rintro t s ht rfl
  left
  refine ⟨_,?_,rfl⟩
  unfold ref49_Debts_L2
  dsimp only
  have hw:IntKind.i64.wrap ((t:Int) + 1)=((t + 1:Nat):Int):=by
   rw [wrap64 (by omega) (by omega)]
   rfl
  rw [decide_eq_true (by omega),cond_true,bind_some_of (getI_in default ht),take_succ_getD _ default ht,List.any_append,hw]
  simp only [List.any_cons,List.any_nil,Bool.or_false]
  cases (debts.take t).any _ <;> cases ((debts.getD t default).Event==x.Event) <;> cases ((debts.getD t default).Net==x.Net) <;> rfl
 ·rintro s rfl
  refine ⟨_,?_,rfl⟩
  unfold ref49_Debts_L2
  dsimp only
  rw [decide_eq_false (by omega),cond_false]
  simp
def BadD (inputs:List api_Input) (outs:List (List api_Out)) (debts:List api_Debt) (k:Nat):Prop:=
 ¬DueP inputs outs (debts.getD k default).Event (debts.getD k default).Net∨(0 < k∧¬ltD (debts.getD (k - 1) default) (debts.getD k default))
theorem Debts_L1_eq (inputs:List api_Input) (outs:List (List api_Out)) (debts:List api_Debt) (hio:inputs.length=outs.length) (hn:outs.length≤1000000) (hl:∀l∈outs,l.length≤1000000) (hd:debts.length≤1000000):
  ((∃k,k < debts.length∧BadD inputs outs debts k)→loopF (ref49_Debts_L1 debts inputs outs) (0:Int)=some (.inr false))∧
  ((∀k,k < debts.length→¬BadD inputs outs debts k)→loopF (ref49_Debts_L1 debts inputs outs) (0:Int)=some (.inl ())):=by
 refine loopF_inv (body:=ref49_Debts_L1 debts inputs outs) debts.length (fun t s=> s=(t:Int)∧∀k,k < t→¬BadD inputs outs debts k)
  (fun r=> ((∃k,k < debts.length∧BadD inputs outs debts k)→r=some (.inr false))∧((∀k,k < debts.length→¬BadD inputs outs debts k)→r=some (.inl ()))) ?_ ?_ ⟨rfl,fun k h=> by omega⟩
 ·rintro t s ht ⟨rfl,hno⟩
  have hw:IntKind.i64.wrap ((t:Int) + 1)=((t + 1:Nat):Int):=by
   rw [wrap64 (by omega) (by omega)]
   rfl
  have body:∃b:Bool,ref49_Debts_L1 debts inputs outs (t:Int)=some (bif b then .inr (.inr false) else .inl ((t + 1:Nat):Int))∧(b=true↔BadD inputs outs debts t):=by
   unfold ref49_Debts_L1 BadD ltD
   obtain ⟨b,k1,k2⟩:=due_eq inputs outs (debts.getD t default).Event (debts.getD t default).Net hio hn hl
   rw [decide_eq_true (by omega),cond_true,bind_some_of (getI_in default ht),k1,Option.bind_some,hw,←k2]
   cases b
   ·exact ⟨true,rfl,by simp⟩
   ·by_cases h0:0 < t
    ·have hw':IntKind.i64.wrap ((t:Int) - 1)=((t - 1:Nat):Int):=by
      rw [wrap64 (by omega) (by omega)]
      omega
     rw [decide_eq_true (p:=(0:Int) < t) (by omega),hw',bind_some_of (getI_in default (show t - 1 < debts.length by omega))]
     generalize debts.getD (t - 1) default=y
     generalize debts.getD t default=x
     by_cases h1:x.Event < y.Event
     ·exact ⟨true,by rw [decide_eq_true h1];rfl,by simp;omega⟩
     ·by_cases h2:y.Event=x.Event
      ·by_cases h3:x.Net≤y.Net
       ·exact ⟨true,by rw [decide_eq_false h1,decide_eq_true h3,h2,beq_self_eq_true];rfl,by simp;omega⟩
       ·exact ⟨false,by rw [decide_eq_false h1,decide_eq_false h3,h2,beq_self_eq_true];rfl,by simp;omega⟩
      ·exact ⟨false,by rw [decide_eq_false h1,beq_eq_false_iff_ne.2 h2];rfl,by simp;omega⟩
    ·rw [decide_eq_false (p:=(0:Int) < t) (by omega)]
     exact ⟨false,rfl,by simp;omega⟩
  obtain ⟨b,hb,hbi⟩:=body
  rw [hb]
  cases b
  ·left
   refine ⟨_,rfl,rfl,fun k hk=> ?_⟩
   by_cases hkt:k=t
   ·rw [hkt]
    exact fun h=> by simpa using hbi.2 h
   ·exact hno k (by omega)
  ·right
   exact ⟨_,rfl,fun _=> rfl,fun h=> absurd (hbi.1 rfl) (h t ht)⟩
 ·rintro s ⟨rfl,hno⟩
  refine ⟨.inl (),?_,?_,fun _=> rfl⟩
  ·unfold ref49_Debts_L1
   rw [decide_eq_false (by omega)]
   rfl
  ·rintro ⟨j,h1,h2⟩
   exact absurd h2 (hno j h1)
def MissD (inputs:List api_Input) (outs:List (List api_Out)) (debts:List api_Debt) (x:api_Out):Prop:=
 x.Kind=2∧(debts.any fun d=> d.Event==x.Event && d.Net==x.Net)=false∧DueP inputs outs x.Event x.Net
theorem Debts_L3_eq (inputs:List api_Input) (outs:List (List api_Out)) (debts:List api_Debt) (hio:inputs.length=outs.length) (hn:outs.length≤1000000) (hl:∀l∈outs,l.length≤1000000) (hd:debts.length≤1000000) (i:Nat) (hi:i < outs.length):
  ((∃k,k < (outs.getD i []).length∧MissD inputs outs debts ((outs.getD i []).getD k default))→loopF (ref49_Debts_L3 outs (i:Int) debts inputs) (0:Int)=some (.inr (.inr (.inr false))))∧
  ((∀k,k < (outs.getD i []).length→¬MissD inputs outs debts ((outs.getD i []).getD k default))→loopF (ref49_Debts_L3 outs (i:Int) debts inputs) (0:Int)=some (.inl ())):=by
 have hlen:(outs.getD i []).length≤1000000:=by
  rw [List.getD_eq_getElem?_getD,List.getElem?_eq_getElem hi]
  exact hl _ (List.getElem_mem hi)
 have hg:getI outs (i:Int)=some (outs.getD i []):=getI_in [] hi
 generalize outs.getD i []=row at *
 refine loopF_inv (body:=ref49_Debts_L3 outs (i:Int) debts inputs) row.length (fun t s=> s=(t:Int)∧∀k,k < t→¬MissD inputs outs debts (row.getD k default))
  (fun r=> ((∃k,k < row.length∧MissD inputs outs debts (row.getD k default))→r=some (.inr (.inr (.inr false))))∧((∀k,k < row.length→¬MissD inputs outs debts (row.getD k default))→r=some (.inl ()))) ?_ ?_ ⟨rfl,fun k h=> by omega⟩
 ·rintro t s ht ⟨rfl,hno⟩
  have hw:IntKind.i64.wrap ((t:Int) + 1)=((t + 1:Nat):Int):=by
   rw [wrap64 (by omega) (by omega)]
   rfl
  have body:∃b:Bool,ref49_Debts_L3 outs (i:Int) debts inputs (t:Int)=some (bif b then .inr (.inr (.inr (.inr false))) else .inl ((t + 1:Nat):Int))∧(b=true↔MissD inputs outs debts (row.getD t default)):=by
   unfold ref49_Debts_L3
   rw [bind_some_of hg,decide_eq_true (by omega),cond_true,bind_some_of (getI_in default ht),Debts_L2_eq debts hd,hw]
   unfold MissD
   generalize row.getD t default=x
   obtain ⟨b,k1,k2⟩:=due_eq inputs outs x.Event x.Net hio hn hl
   rw [←k2]
   generalize (debts.any fun d=> d.Event==x.Event && d.Net==x.Net)=a
   cases h1:(x.Kind==2)
   ·exact ⟨false,rfl,by simp at h1;simp [h1]⟩
   ·simp only [beq_iff_eq] at h1
    cases a
    ·refine ⟨b,?_,by simp [h1]⟩
     change seqF (A:=Unit) ((ref49_due inputs outs x.Event x.Net).bind _) _=_
     rw [k1]
     cases b <;> rfl
    ·exact ⟨false,rfl,by simp⟩
  obtain ⟨b,hb,hbi⟩:=body
  rw [hb]
  cases b
  ·left
   refine ⟨_,rfl,rfl,fun k hk=> ?_⟩
   by_cases hkt:k=t
   ·rw [hkt]
    exact fun h=> by simpa using hbi.2 h
   ·exact hno k (by omega)
  ·right
   exact ⟨_,rfl,fun _=> rfl,fun h=> absurd (hbi.1 rfl) (h t ht)⟩
 ·rintro s ⟨rfl,hno⟩
  refine ⟨.inl (),?_,?_,fun _=> rfl⟩
  ·unfold ref49_Debts_L3
   rw [bind_some_of hg,decide_eq_false (by omega)]
   rfl
  ·rintro ⟨j,h1,h2⟩
   exact absurd h2 (hno j h1)
theorem Debts_L4_eq (inputs:List api_Input) (outs:List (List api_Out)) (debts:List api_Debt) (hio:inputs.length=outs.length) (hn:outs.length≤1000000) (hl:∀l∈outs,l.length≤1000000) (hd:debts.length≤1000000):
  ((∃i,i < outs.length∧∃k,k < (outs.getD i []).length∧MissD inputs outs debts ((outs.getD i []).getD k default))→loopF (ref49_Debts_L4 outs debts inputs) (0:Int)=some (.inr false))∧
  ((∀i,i < outs.length→∀k,k < (outs.getD i []).length→¬MissD inputs outs debts ((outs.getD i []).getD k default))→loopF (ref49_Debts_L4 outs debts inputs) (0:Int)=some (.inl ())):=by
 refine loopF_inv (body:=ref49_Debts_L4 outs debts inputs) outs.length (fun t s=> s=(t:Int)∧∀i,i < t→∀k,k < (outs.getD i []).length→¬MissD inputs outs debts ((outs.getD i []).getD k default))
  (fun r=> ((∃i,i < outs.length∧∃k,k < (outs.getD i []).length∧MissD inputs outs debts ((outs.getD i []).getD k default))→r=some (.inr false))∧((∀i,i < outs.length→∀k,k < (outs.getD i []).length→¬MissD inputs outs debts ((outs.getD i []).getD k default))→r=some (.inl ()))) ?_ ?_ ⟨rfl,fun k h=> by omega⟩
 ·rintro t s ht ⟨rfl,hno⟩
  have hw:IntKind.i64.wrap ((t:Int) + 1)=((t + 1:Nat):Int):=by
   rw [wrap64 (by omega) (by omega)]
   rfl
  obtain ⟨k1,k2⟩:=Debts_L3_eq inputs outs debts hio hn hl hd t ht
  unfold ref49_Debts_L4
  rw [decide_eq_true (by omega),cond_true,hw]
  by_cases hm:∃k,k < (outs.getD t []).length∧MissD inputs outs debts ((outs.getD t []).getD k default)
  ·rw [k1 hm]
   right
   refine ⟨_,rfl,fun _=> rfl,fun h=> ?_⟩
   obtain ⟨k,h1,h2⟩:=hm
   exact absurd h2 (h t ht k h1)
  ·have hm':∀k,k < (outs.getD t []).length→¬MissD inputs outs debts ((outs.getD t []).getD k default):=fun k h1 h2=> hm ⟨k,h1,h2⟩
   rw [k2 hm']
   left
   refine ⟨_,rfl,rfl,fun i hi=> ?_⟩
   by_cases hit:i=t
   ·rw [hit];exact hm'
   ·exact hno i (by omega)
 ·rintro s ⟨rfl,hno⟩
  refine ⟨.inl (),?_,?_,fun _=> rfl⟩
  ·unfold ref49_Debts_L4
   rw [decide_eq_false (by omega)]
   rfl
  ·rintro ⟨i,hi,j,h1,h2⟩
   exact absurd h2 (hno i hi j h1)
theorem Debts_eq (inputs:List api_Input) (outs:List (List api_Out)) (debts:List api_Debt) (hio:inputs.length=outs.length) (hn:outs.length≤1000000) (hl:∀l∈outs,l.length≤1000000) (hd:debts.length≤1000000):
  ∃b,ref49_Debts inputs outs debts=some b∧(b=true↔DebtsP inputs outs debts):=by
 unfold ref49_Debts
 have h0:((inputs.length:Int) !=(outs.length:Int))=false:=by simp [hio]
 rw [h0,cond_false]
 obtain ⟨k1,k2⟩:=Debts_L1_eq inputs outs debts hio hn hl hd
 by_cases h1:∃k,k < debts.length∧BadD inputs outs debts k
 ·rw [k1 h1]
  refine ⟨false,rfl,?_⟩
  constructor
  ·intro h;cases h
  ·rintro ⟨h2,h3,_⟩
   obtain ⟨k,h4,h5⟩:=h1
   have hmem:debts.getD k default∈debts:=by
    rw [List.getD_eq_getElem?_getD,List.getElem?_eq_getElem h4]
    exact List.getElem_mem h4
   rcases h5 with h5 | ⟨h5,h6⟩
   ·exact absurd (h2 _ hmem) h5
   ·refine absurd ?_ h6
    have:=h3 (k - 1) (by omega)
    rwa [show k - 1 + 1=k by omega] at this
 ·have h1':∀k,k < debts.length→¬BadD inputs outs debts k:=fun k h2 h3=> h1 ⟨k,h2,h3⟩
  rw [k2 h1']
  obtain ⟨m1,m2⟩:=Debts_L4_eq inputs outs debts hio hn hl hd
  change ∃b,seqF (A:=Unit) (loopF (ref49_Debts_L4 outs debts inputs) (0:Int)) _=some b∧_
  by_cases h2:∃i,i < outs.length∧∃k,k < (outs.getD i []).length∧MissD inputs outs debts ((outs.getD i []).getD k default)
  ·rw [m1 h2]
   refine ⟨false,rfl,?_⟩
   constructor
   ·intro h;cases h
   ·rintro ⟨_,_,h4⟩
    obtain ⟨i,hi,k,hk,h5,h6,h7⟩:=h2
    obtain ⟨d,hd1,hd2,hd3⟩:=h4 _ _ h7
    rw [List.any_eq_false] at h6
    exact absurd (h6 d hd1) (by simp [hd2,hd3])
  ·have h2':∀i,i < outs.length→∀k,k < (outs.getD i []).length→¬MissD inputs outs debts ((outs.getD i []).getD k default):=fun i h3 k h4 h5=> h2 ⟨i,h3,k,h4,h5⟩
   rw [m2 h2']
   refine ⟨true,rfl,?_⟩
   constructor
   ·intro _
    refine ⟨?_,?_,?_⟩
    ·intro d hdm
     obtain ⟨k,hk,rfl⟩:=List.getElem_of_mem hdm
     have:=h1' k hk
     unfold BadD at this
     rw [List.getD_eq_getElem?_getD,List.getElem?_eq_getElem hk] at this
     exact Classical.byContradiction fun h=> this (Or.inl h)
    ·intro k hk
     have:=h1' (k + 1) hk
     unfold BadD at this
     exact Classical.byContradiction fun h=> this (Or.inr ⟨by omega,h⟩)
    ·intro ev net hdue
     obtain ⟨i,hi,he,hno⟩:=hdue
     have he':=he
     unfold hasE at he'
     rw [List.any_eq_true] at he'
     obtain ⟨x,hx,hx2⟩:=he'
     obtain ⟨k,hk,rfl⟩:=List.getElem_of_mem hx
     unfold isE at hx2
     simp only [Bool.and_eq_true,beq_iff_eq] at hx2
     have:=h2' i hi k hk
     unfold MissD at this
     rw [List.getD_eq_getElem?_getD (l:=outs.getD i []),List.getElem?_eq_getElem hk] at this
     simp only [Option.getD_some] at this
     rw [hx2.1,hx2.2.1,hx2.2.2] at this
     cases ha:(debts.any fun d=> d.Event==ev && d.Net==net)
     ·exact absurd ⟨rfl,ha,i,hi,he,hno⟩ this
     ·rw [List.any_eq_true] at ha
      obtain ⟨d,hd1,hd2⟩:=ha
      simp only [Bool.and_eq_true,beq_iff_eq] at hd2
      exact ⟨d,hd1,hd2⟩
   ·intro _;rfl
open Go.RowKit
instance:Inhabited audit_given:=⟨⟨0,0,0⟩⟩
theorem flat_le (outs:List (List api_Out)) (hl:∀l∈outs,l.length≤12):∀i,((outs.take i).flatten).length≤12 * i:=by
 intro i
 induction i with
 | zero=> simp
 | succ i ih=>
  by_cases hi:i < outs.length
  ·rw [take_succ_getD outs [] hi,List.flatten_append,List.length_append]
   have:(outs.getD i []).length≤12:=by
    rw [List.getD_eq_getElem?_getD,List.getElem?_eq_getElem hi]
    exact hl _ (List.getElem_mem hi)
   simp only [List.flatten_cons,List.flatten_nil,List.append_nil]
   omega
  ·rw [List.take_of_length_le (by omega)]
   rw [List.take_of_length_le (by omega)] at ih
   omega
theorem Concat_eq (outs:List (List api_Out)) (hn:outs.length≤20) (hl:∀l∈outs,l.length≤12):slices_Concat_api_Out_api_Out outs=some outs.flatten:=by
 have hfl:=flat_le outs hl
 have hrow:∀i,i < outs.length→(outs.getD i []).length≤12:=by
  intro i hi
  rw [List.getD_eq_getElem?_getD,List.getElem?_eq_getElem hi]
  exact hl _ (List.getElem_mem hi)
 have hall:outs.flatten.length≤240:=by
  have:=hfl outs.length
  rw [List.take_length] at this
  omega
 have k1:=loopF_inv (body:=slices_Concat_api_Out_api_Out_L1 outs) outs.length (fun i s=> s=(((outs.take i).flatten.length:Int),(i:Int))) (fun r=> r=some (.inl (outs.flatten.length:Int)))
  (by
   rintro i s hi rfl
   left
   refine ⟨(((outs.take (i + 1)).flatten.length:Int),((i + 1:Nat):Int)),?_,rfl⟩
   unfold slices_Concat_api_Out_api_Out_L1
   dsimp only
   have h1:=hrow i hi
   have h2:=hfl i
   rw [decide_eq_true (by omega),cond_true,bind_some_of (getI_in [] hi),wrap64 (n:=((outs.take i).flatten.length:Int) + ((outs.getD i []).length:Int)) (by omega) (by omega),wrap64 (by omega) (by omega),decide_eq_false (by omega),cond_false,take_succ_getD outs [] hi,List.flatten_append,List.length_append]
   simp only [List.flatten_cons,List.flatten_nil,List.append_nil]
   rfl)
  (by
   rintro s rfl
   refine ⟨_,?_,rfl⟩
   unfold slices_Concat_api_Out_api_Out_L1
   dsimp only
   rw [decide_eq_false (by omega),cond_false,List.take_length])
  (s0:=((0:Int),(0:Int))) (by simp)
 have k2:=loopF_inv (body:=slices_Concat_api_Out_api_Out_L2 outs) outs.length (fun i s=> s=((i:Int),(outs.take i).flatten)) (fun r=> r=some (.inl outs.flatten))
  (by
   rintro i s hi rfl
   left
   refine ⟨(((i + 1:Nat):Int),(outs.take (i + 1)).flatten),?_,rfl⟩
   unfold slices_Concat_api_Out_api_Out_L2
   dsimp only
   have h1:=hrow i hi
   have h2:=hfl i
   rw [decide_eq_true (by omega),cond_true,bind_some_of (getI_in [] hi),chk_true (by simp only [decide_eq_true_eq];omega),wrap64 (by omega) (by omega),take_succ_getD outs [] hi,List.flatten_append]
   simp only [List.flatten_cons,List.flatten_nil,List.append_nil]
   rfl)
  (by
   rintro s rfl
   refine ⟨_,?_,rfl⟩
   unfold slices_Concat_api_Out_api_Out_L2
   dsimp only
   rw [decide_eq_false (by omega),cond_false,List.take_length])
  (s0:=((0:Int),([]:List api_Out))) (by simp)
 unfold slices_Concat_api_Out_api_Out
 rw [k1]
 show (growL (A:=api_Out) (outs.flatten.length:Int)).bind _=_
 have hg:growL (A:=api_Out) (outs.flatten.length:Int)=some []:=by
  unfold growL
  rw [decide_eq_true (by omega),decide_eq_true (by omega)]
  rfl
 rw [hg,Option.bind_some,k2]
 rfl
def givenOf (x:api_Out):audit_given:=⟨x.Net,x.Item.Event,x.Item.Part⟩
theorem aitems_eq (outs:List (List api_Out)) (hn:outs.length≤20) (hl:∀l∈outs,l.length≤12):audit_items outs=some ((itemsL outs).map givenOf):=by
 have hall:outs.flatten.length≤240:=by
  have:=flat_le outs hl outs.length
  rw [List.take_length] at this
  omega
 unfold audit_items
 rw [Concat_eq outs hn hl,Option.bind_some]
 unfold itemsL
 generalize outs.flatten=l at *
 have k:=loopF_inv (body:=audit_items_L1 l) l.length (fun i s=> s=((i:Int),((l.take i).filter isItem).map givenOf)) (fun r=> r=some (.inl ((l.filter isItem).map givenOf)))
  (by
   rintro i s hi rfl
   left
   refine ⟨_,?_,rfl⟩
   unfold audit_items_L1
   dsimp only
   rw [decide_eq_true (by omega),cond_true,chk_true (by simp <;> omega),bind_some_of (getI_in default hi),take_succ_getD l default hi,List.filter_append,List.map_append,wrap64 (by omega) (by omega)]
   have hf:((l.take i).filter isItem).length≤i:=Nat.le_trans (List.length_filter_le _ _) (by simp;omega)
   generalize l.getD i default=x
   cases hx:(x.Kind==(0:Int))
   ·have: [x].filter isItem= []:=by simp [isItem,hx]
    rw [this,List.map_nil,List.append_nil]
    rfl
   ·have: [x].filter isItem= [x]:=by simp [isItem,hx]
    rw [this,cond_true,chk_true (by simp;omega)]
    rfl)
  (by
   rintro s rfl
   refine ⟨_,?_,rfl⟩
   unfold audit_items_L1
   dsimp only
   rw [decide_eq_false (by omega),cond_false,List.take_length])
  (s0:=((0:Int),([]:List audit_given))) (by simp)
 rw [k]
 rfl
end Go.Proofs.YtiklglcjecopcaaGreatDoor
namespace Go.Proofs.YtiklglcjecopcaaGreatDoor
open Go.RowKit Go.Maps Go.Sort Go.Shelf Go.WideMaps Go.WideElems Go.WideShapes
structure CollP (D0:DataW Unit) (left:Lit→Bool) (ss:List Pr):Prop where
 nodup:ss.Nodup
 rng:∀x∈ss,inR x
 mem:∀x,inR x→(x∈ss↔(has D0 (klit x)=true∧left (klit x)=false))
theorem CollP.start (D0:DataW Unit):CollP D0 (has D0) []:=⟨List.nodup_nil,fun x hx=> (by cases hx),fun x _=> by cases has D0 (klit x) <;> simp⟩
theorem same_klit (x y:Pr):(klit y).sameKey (klit x)=true↔klit y=klit x:=by
 unfold klit
 simp [Lit.sameKey]
theorem CollP.step {D0:DataW Unit} {left:Lit→Bool} {ss:List Pr} (h:CollP D0 left ss) {x:Pr} (hx:inR x) {y:DataW Unit} (hlk:left (klit x)=true) (hat:∀zd,D0.atKey (klit x) zd=y):CollP D0 (fun z=> left z && !z.sameKey (klit x)) (ss ++ [x]):=by
 have hhas:has D0 (klit x)=true:=has_true_of_atKey hat
 have hnew:x∉ss:=fun hm=> by have:=((h.mem x hx).1 hm).2;rw [hlk] at this;cases this
 refine ⟨List.nodup_append.2 ⟨h.nodup,by simp,fun a ha b hb=> by simp at hb;subst hb;exact fun e=> hnew (e ▸ ha)⟩,fun z hz=> ?_,fun z hz=> ?_⟩
 ·rcases List.mem_append.1 hz with hz | hz
  ·exact h.rng z hz
  ·rw [List.mem_singleton.1 hz];exact hx
 ·by_cases hzx:z=x
  ·subst hzx
   have e:(klit z).sameKey (klit z)=true:=(same_klit z z).2 rfl
   simp [hhas,e]
  ·have hne:(klit z).sameKey (klit x)=false:=by
    cases hq:(klit z).sameKey (klit x)
    ·rfl
    ·exact absurd ((same_klit x z).1 hq) fun e=> hzx (klit_inj hz hx e)
   simp [h.mem z hz,hzx,hne]
set_option maxRecDepth 100000 in
set_option maxHeartbeats 1000000 in
theorem keysP_in (F:Fence) (n:Nat) (h10:F.fn 78) (hro:F.round=none) (hn:1≤n) (l Bm b nn:Nat) (D0:DataW Unit) {R:Value→Option (DataW Unit×List MemPlace)} (J:List Pr→World→Prop)
  (hY:∀pre x W,J pre W→pre.length < Maps.size D0→YieldAt F (n - 1) Tryz.prog l #[pairV x] W fun e W'=> e= .returned (.bool true)∧J (pre ++ [x]) W'∧KeepsWalks W W')
  (W:World) (hJ:AbidesFrom W.heap.size J) (hm:W.cell? ⟨Bm,0,none⟩=some (.map (some b))) (hown:W.ownsMap Tryz.prog 67 R b nn D0) (h0:J [] W):
  CallsIn F n Tryz.prog 78 #[.func (.yield l) #[] #[],.pointer (some ⟨Bm,0,none⟩)] W fun e W'=> (∃v,e= .returned v)∧∃ss:List Pr,CollP D0 (fun _=> false) ss∧J ss W':=by
 refine callsIn_of_wp Tryz.func78 rfl h10 ?_ hro
 simp only [Tryz.ntmps78,List.size_toArray,List.length_cons,List.length_nil,Nat.reduceAdd,Nat.reduceSub,Array.replicate_succ,Array.replicate_zero,List.push_toArray,List.append_toArray,List.nil_append,List.cons_append]
 gi_wp2_with (first
  | (gi_at_range;refine wpListIn_range_own _ rfl _ 96 rfl 67 4 keyed67 Tryz.underlying96 _ b nn _ rfl hown ?_;intro w0 hrg0 hg0 hs0)
  | gi_in)
 go_frame
 gi_loopw [3] (fun _ wr=> ∃(left:Lit→Bool) (cnt:Nat) (ss:List Pr),wr.ranges Tryz.prog 67 R b W.heap.size nn D0 left cnt∧ss.length + cnt≤Maps.size D0∧CollP D0 left ss∧J ss wr)
  (fun _ wr=> wr.rangeLeft b W.heap.size)
 case atStart=>
  exact ⟨_,_,[],hrg0,by simp,CollP.start D0,hJ [] W w0 none h0 hg0 (fun r e=> by cases e)⟩
 case round=>
  obtain ⟨left,cnt,ss,hrg,hcs,hC,hJs⟩:=hrel
  gi_wp2_with (first
   | (gi_at_next;refine wpListIn_next_ranges _ rfl _ rfl 67 keyed67 R pairV id (fun key kl hk=> by obtain ⟨x,hx,_⟩:=of_key67 hk;exact ⟨x,hx⟩) (fun v _ _=> ⟨v,rfl⟩) b W.heap.size nn _ _ _ rfl hrg ?_ ?_)
   | gi_in)
  ·intro hc0 hl0
   gi_wp2
   go_end0
   exact ⟨⟨_,rfl⟩,ss,⟨hC.nodup,hC.rng,fun x hx=> by rw [hC.mem x hx,hl0]⟩,hJs⟩
  ·intro x1 x2 c kl yd yp w2 cnt2 hkey hlk hv hat hrg2 hlt hg2 hs2 hen
   obtain ⟨x',ex,hir,rfl⟩:=of_key67 hkey
   obtain rfl:=pairV_inj ex
   have hJ2:J ss w2:=hJ ss wr w2 (some W.heap.size) hJs hg2 (fun r e=> by cases e;exact ⟨Nat.le_refl _,hrg.iter_walk⟩)
   clear hs2
   unfold pairV at hen
   have hg3:w2.grownBy (w2.alloc (.cells #[.int .i64 x1,.int .i64 x2] 67)) none:=⟨rfl,rfl,rfl,by simp,fun k hk _=> Below.heap_alloc _ _ k hk⟩
   have hJ3:J ss (w2.alloc (.cells #[.int .i64 x1,.int .i64 x2] 67)):=hJ ss w2 _ none hJ2 hg3 (fun r e=> by cases e)
   obtain ⟨fn,tmps,assign,body,hy,hR⟩:=hY ss (x1,x2) _ hJ3 (by omega)
   unfold pairV at hy
   gi_wp2
   refine hR.mono ?_
   rintro e W3 ⟨rfl,hJ4,hk3⟩
   gi_wp2
   have hrg3:=(hrg2.of_walks (KeepsWalks.alloc _ _)).of_walks hk3
   go_roundw
   case rel=> exact ⟨_,cnt2,ss ++ [(x1,x2)],hrg3,by simp;omega,hC.step hir hlk hat,hJ4⟩
   case measure=> rw [hrg3.left_eq,hrg.left_eq];exact hlt
theorem keysP_gives (F:Fence) (n:Nat) (h10:F.fn 78) (hro:F.round=none) (hn:1≤n) (Bm b nn:Nat) (D0:DataW Unit) {R:Value→Option (DataW Unit×List MemPlace)} (w:World) (hBm:Bm < w.heap.size)
  (hm:w.cell? ⟨Bm,0,none⟩=some (.map (some b))) (hown:w.ownsMap Tryz.prog 67 R b nn D0):
  SeqGives F n Tryz.prog 78 #[.pointer (some ⟨Bm,0,none⟩)] pairV (CollP D0 fun _=> false) (Maps.size D0) w:=fun l J W hW hJ hY h0=> by
 have hown':W.ownsMap Tryz.prog 67 R b nn D0:=by
  have hbl:=hown.lt
  obtain ⟨es,clock,hb,Ft,hs,hD⟩:=hown
  exact ⟨es,clock,(hW.block b hbl).trans hb,Ft,hs,hD⟩
 exact keysP_in F n h10 hro hn l Bm b nn D0 J hY W hJ ((hW.cell (p:=⟨Bm,0,none⟩) hBm).trans hm) hown' h0
end Go.Proofs.YtiklglcjecopcaaGreatDoor
